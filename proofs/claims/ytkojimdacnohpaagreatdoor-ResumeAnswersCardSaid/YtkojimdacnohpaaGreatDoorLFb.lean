import Derived.Test.YtkojimdacnohpaaGreatDoorLUe
import Derived.Test.YtkojimdacnohpaaGreatDoorLPw
import Derived.Test.YtkojimdacnohpaaGreatDoorLSd
import Derived.Test.YtkojimdacnohpaaGreatDoorLHb
import Derived.Test.YtkojimdacnohpaaGreatDoorLLib
import Derived.Test.YtkojimdacnohpaaGreatDoorLDc
set_option maxHeartbeats 2000000
set_option linter.unusedSimpArgs false
set_option linter.unusedVariables false
set_option maxRecDepth 20000
namespace Go.Esc.M
open Go Go.Esc
theorem MO {p p':aK} (h:p.ok) (h':p'.ok):eqF T (mN T 8) [(au,0),(me,1),(me,2),(aj,3),(bH,35)] p.cs p'.cs 0 = some (decide (p = p')):=by
 have z1:=gu h.hash
 have z2:=gu h'.hash
 have q2:∀ m n:Int,mN T 8 me (.int .i64 m) (.int .i64 n) = some (decide (m = n)):=fun m n=>by
  rw [mN]; simp only [cA]; rfl
 have q1:∀ m n:Int,mN T 8 au (.int .i64 m) (.int .i64 n) = some (decide (m = n)):=fun m n=>by
  rw [mN]; simp only [hO]; rfl
 have q4:∀ m n:List UInt8,mN T 8 bH (.str m) (.str n) = some (decide (m = n)):=fun m n=>by
  rw [mN]; simp only [fZ]; rfl
 have v1:∀ m:Int,fa mf (.int .i64 m) = true:=fun m=>rfl
 have v2:∀ m:Int,fa jy (.int .i64 m) = true:=fun m=>rfl
 have v4:∀ m:List UInt8,fa iO (.str m) = true:=fun m=>rfl
 have s1:mf.size = 1:=rfl
 have s2:jy.size = 1:=rfl
 have s3:fE.size = 32:=rfl
 have q3:=Cq h.hash h'.hash
 obtain ⟨a,b,c,d,e⟩:=p
 obtain ⟨a',b',c',d',e'⟩:=p'
 dsimp only at z1 z2 q3
 simp only [aK.cs,eqF,hO,cA,cd,fZ,v1,v2,v4,z1,z2,s1,s2,s3,Nat.zero_add,q1,q2,q3,q4,beq_self_eq_true,Bool.and_self,Nat.reduceAdd,if_true]
 by_cases h1:a = a'
 ·subst h1
  by_cases h2:b = b'
  ·subst h2
   by_cases h3:c = c'
   ·subst h3
    by_cases h4:d = d'
    ·subst h4
     by_cases h5:e = e'
     ·subst h5; simp
     ·simp [h5]
    ·simp [h4]
   ·simp [h3]
  ·simp [h2]
 ·simp [h1]
theorem MK {p p':aK} (h:p.ok) (h':p'.ok):mN T 9 aI p.av p'.av = some (decide (p = p')):=by
 rw [<- MO h h',mN]
 have e1:dA.desc = .struct [(au,0),(me,1),(me,2),(aj,3),(bH,35)]:=rfl
 simp only [fC,e1]
 rfl
theorem MA {p p':aK} (h:p.ok) (h':p'.ok):aw T .neq aI p.av p'.av = some (.bool (!decide (p = p'))):=by
 have:=MK h h'
 unfold aK.av at this ⊢
 simp only [aw,this]
section
variable {F0:List AId} {G0 G:ah} {ps:List LP} {Q:ag -> ah -> Prop}
end
end Go.Esc.M
namespace Go.Esc.M
open Go Go.Esc
end Go.Esc.M
namespace Go.Esc.M
open Go Go.Esc
section
variable {F0:List AId} {G0 G:ah} {ps:List LP} {Q:ag -> ah -> Prop}
theorem jb {v:ag} {l:List aK} {j f o:Nat} {p:aK} {tf:TypeId} {fi:TI} {c:ag} (h:fV 36 G v (l.map aK.av)) (hj:l[j]? = some p) (hf:[(au,0),(me,1),(me,2),(aj,3),(bH,35)][f]? = some (tf,o)) (hft:T tf = some fi) (hz:fi.size ≠ 0)
  (hs:szs (p.cs.take f) = o) (hc:p.cs[f]? = some c) (hfit:fa fi c = true) :
  ∃ a b,aL T ak v (.int .i64 (j:Int)) = some a /\ bx T aI a f = some b /\ lq T G tf b = some c :=
 fV.fld (k:=.i64) (i:=fl) (ie:=dA) cn rfl fC rfl hf hft hz h (by rw [List.getElem?_map,hj]; rfl) hs hc hfit
theorem eR.use {v:ag} {l:List aK} {id:Int} (hl:fV 36 G v (l.map aK.av)) (hok:∀ u ∈ l,u.ok) (hlen:l.length ≤ 9223372036854775807) (hQ:∀ G',Ch [] G [] G' -> Q (H8 (fW false id l)) G') :
  al P eR.n [v,.int .i64 id] G Q:=by
 refine eR.sound ?_
 unfold eR.S
 rw [DL]
 intro i1 f1
 have s1:=(Sp.nil G).row f1 aK.zero.av
 revert s1
 generalize ah.upd _ i1 (.own aK.zero.av) = G2
 intro s1 R hR
 have loop:∀ (n j:Nat),l.length - j = n -> j ≤ l.length -> fW false id (l.drop j) = fW false id l -> R [v,.int .i64 id,.ptr i1 [] 0,.int .i64 (j:Int)] G2:=by
  intro n
  induction n with
  | zero=>
   intro j hn hj he
   have:j = l.length:=by omega
   subst this
   rw [List.drop_length] at he
   refine hR _ _ _ _ _ ?_
   refine ae (fy (hl.ch' s1.ch)) ?_
   rw [aH,aa,aE]
   refine ⟨fun h=>absurd h (by omega),fun _=>?_⟩
   rw [ug,aa]
   refine kY (i:=0) s1 rfl aK.bD aK.bD fun G2 s2=>?_
   refine ae (dh (i:=0) s2 rfl aK.bD).2.2.2.2.2 ?_
   have:=hQ _ s2.ch
   rw [<- he] at this
   exact this
  | succ n ih=>
   intro j hn hj he
   obtain ⟨u,hu⟩:∃ u,l[j]? = some u:=⟨_,List.getElem?_eq_getElem (by omega)⟩
   have huo:=hok u (List.mem_of_getElem? hu)
   obtain ⟨a,ha,hla⟩:=oF (hl.ch' s1.ch) hu
   obtain ⟨a0,b0,ha0,hb0,hl0⟩:=jb (f:=0) (o:=0) (tf:=au) (fi:=mf) (hl.ch' s1.ch) hu rfl hO (by decide) rfl rfl rfl
   obtain ⟨a1,b1,ha1,hb1,hl1⟩:=jb (f:=1) (o:=1) (tf:=me) (fi:=jy) (hl.ch' s1.ch) hu rfl cA (by decide) rfl rfl rfl
   have hdr:l.drop j = u :: l.drop (j + 1):=by
    obtain ⟨hx,rfl⟩:=List.getElem?_eq_some_iff.1 hu
    exact List.drop_eq_getElem_cons hx
   rw [hdr,fW,List.find?_cons] at he
   have next:vY false id u = false -> wv (aw T .add au (.int .i64 (j:Int)) (.int .i64 1)) fun v31=>R [v,.int .i64 id,.ptr i1 [] 0,v31] G2:=by
    intro h
    rw [h] at he
    rw [wi,aa,i64_in (by omega) (by omega)]
    exact ih (j + 1) (by omega) (by omega) he
   unfold vY at next he
   refine hR _ _ _ _ _ ?_
   refine ae (fy (hl.ch' s1.ch)) ?_
   rw [aH,aa,aE]
   refine ⟨fun _=>?_,fun h=>absurd (by omega) h⟩
   refine ae ha0 ?_
   refine ae hb0 ?_
   refine ae hl0 ?_
   rw [bC,aa,aE]
   refine ⟨fun hk=>?_,fun hk=>next (by rw [cond_false,decide_eq_false hk,Bool.and_false])⟩
   refine ae ha1 ?_
   refine ae hb1 ?_
   refine ae hl1 ?_
   rw [bC,aa,aE]
   refine ⟨fun hid=>?_,fun hid=>next (by rw [decide_eq_false hid,Bool.false_and])⟩
   rw [cond_false,decide_eq_true hid,decide_eq_true hk] at he
   refine ae ha ?_
   refine ae hla ?_
   refine kY (i:=0) s1 rfl aK.bD huo fun G2 s2=>?_
   refine ae (dh (i:=0) s2 rfl huo).2.2.2.2.2 ?_
   have:=hQ _ s2.ch
   rw [<- he] at this
   exact this
 exact loop _ 0 rfl (by omega) (by simp)
theorem cP.use {v:ag} {l:List aK} {id:Int} (hl:fV 36 G v (l.map aK.av)) (hok:∀ u ∈ l,u.ok) (hlen:l.length ≤ 9223372036854775807) (hQ:∀ G',Ch [] G [] G' -> Q (H8 (fW true id l)) G') :
  al P cP.n [v,.int .i64 id] G Q:=by
 refine cP.sound ?_
 unfold cP.S
 rw [DL]
 intro i1 f1
 have s1:=(Sp.nil G).row f1 aK.zero.av
 revert s1
 generalize ah.upd _ i1 (.own aK.zero.av) = G2
 intro s1 R hR
 have loop:∀ (n j:Nat),l.length - j = n -> j ≤ l.length -> fW true id (l.drop j) = fW true id l -> R [v,.int .i64 id,.ptr i1 [] 0,.int .i64 (j:Int)] G2:=by
  intro n
  induction n with
  | zero=>
   intro j hn hj he
   have:j = l.length:=by omega
   subst this
   rw [List.drop_length] at he
   refine hR _ _ _ _ _ ?_
   refine ae (fy (hl.ch' s1.ch)) ?_
   rw [aH,aa,aE]
   refine ⟨fun h=>absurd h (by omega),fun _=>?_⟩
   rw [ug,aa]
   refine kY (i:=0) s1 rfl aK.bD aK.bD fun G2 s2=>?_
   refine ae (dh (i:=0) s2 rfl aK.bD).2.2.2.2.2 ?_
   have:=hQ _ s2.ch
   rw [<- he] at this
   exact this
  | succ n ih=>
   intro j hn hj he
   obtain ⟨u,hu⟩:∃ u,l[j]? = some u:=⟨_,List.getElem?_eq_getElem (by omega)⟩
   have huo:=hok u (List.mem_of_getElem? hu)
   obtain ⟨a,ha,hla⟩:=oF (hl.ch' s1.ch) hu
   obtain ⟨a0,b0,ha0,hb0,hl0⟩:=jb (f:=0) (o:=0) (tf:=au) (fi:=mf) (hl.ch' s1.ch) hu rfl hO (by decide) rfl rfl rfl
   obtain ⟨a1,b1,ha1,hb1,hl1⟩:=jb (f:=1) (o:=1) (tf:=me) (fi:=jy) (hl.ch' s1.ch) hu rfl cA (by decide) rfl rfl rfl
   have hdr:l.drop j = u :: l.drop (j + 1):=by
    obtain ⟨hx,rfl⟩:=List.getElem?_eq_some_iff.1 hu
    exact List.drop_eq_getElem_cons hx
   rw [hdr,fW,List.find?_cons] at he
   refine hR _ _ _ _ _ ?_
   refine ae (fy (hl.ch' s1.ch)) ?_
   rw [aH,aa,aE]
   refine ⟨fun _=>?_,fun h=>absurd (by omega) h⟩
   intro J33
   have no:vY true id u = false -> J33 (.bool false) G2:=by
    intro h
    rw [h] at he
    simp -zeta only [J33,aM]
    rw [wi,aa,i64_in (by omega) (by omega)]
    exact ih (j + 1) (by omega) (by omega) he
   have yes:vY true id u = true -> J33 (.bool true) G2:=by
    intro h
    rw [h] at he
    simp -zeta only [J33,aX]
    refine ae ha ?_
    refine ae hla ?_
    refine kY (i:=0) s1 rfl aK.bD huo fun G2 s2=>?_
    refine ae (dh (i:=0) s2 rfl huo).2.2.2.2.2 ?_
    have:=hQ _ s2.ch
    rw [<- he] at this
    exact this
   have idt:(u.kind = 2 \/ u.kind = 3) -> J33 (.bool (decide (u.id = id))) G2:=by
    intro hk
    have hkk:(decide (u.kind = 2) || decide (u.kind = 3)) = true:=by
     rw [Bool.or_eq_true,decide_eq_true_eq,decide_eq_true_eq]; exact hk
    unfold vY at yes no
    rw [cond_true,hkk,Bool.and_true] at yes no
    by_cases h:u.id = id
    ·rw [decide_eq_true h]; exact yes (decide_eq_true h)
    ·rw [decide_eq_false h]; exact no (decide_eq_false h)
   refine ae ha0 ?_
   refine ae hb0 ?_
   refine ae hl0 ?_
   rw [bC,aa,aE]
   refine ⟨fun hk=>?_,fun hk=>?_⟩
   ·refine ae ha1 ?_
    refine ae hb1 ?_
    refine ae hl1 ?_
    rw [bC,aa]
    exact idt (.inl hk)
   ·refine ae ha0 ?_
    refine ae hb0 ?_
    refine ae hl0 ?_
    rw [bC,aa,aE]
    refine ⟨fun hk3=>?_,fun hk3=>no (by unfold vY; rw [cond_true,decide_eq_false hk,decide_eq_false hk3,Bool.or_self,Bool.and_false])⟩
    refine ae ha1 ?_
    refine ae hb1 ?_
    refine ae hl1 ?_
    rw [bC,aa]
    exact idt (.inr hk3)
 exact loop _ 0 rfl (by omega) (by simp)
theorem eT.use {v:ag} {l:List aK} (hl:fV 36 G v (l.map aK.av)) (hlen:l.length ≤ 9223372036854775807) (hQ:Q (.int .i64 (qD l:Nat)) G):al P eT.n [v] G Q:=by
 refine eT.sound ?_
 unfold eT.S
 intro R hR
 have loop:∀ (n j:Nat),l.length - j = n -> j ≤ l.length -> R [v,.int .i64 (qD (l.take j):Nat),.int .i64 (j:Int)] G:=by
  intro n
  induction n with
  | zero=>
   intro j hn hj
   have:j = l.length:=by omega
   subst this
   refine hR _ _ _ _ ?_
   refine ae (fy hl) ?_
   rw [aH,aa,aE]
   refine ⟨fun h=>absurd h (by omega),fun _=>?_⟩
   rw [List.take_length]
   exact hQ
  | succ n ih=>
   intro j hn hj
   obtain ⟨u,hu⟩:∃ u,l[j]? = some u:=⟨_,List.getElem?_eq_getElem (by omega)⟩
   obtain ⟨a0,b0,ha0,hb0,hl0⟩:=jb (f:=0) (o:=0) (tf:=au) (fi:=mf) hl hu rfl hO (by decide) rfl rfl rfl
   have ht:=EU hu
   have hle:=Jb (l.take j)
   have hlj:(l.take j).length ≤ j:=List.length_take_le _ _
   refine hR _ _ _ _ ?_
   refine ae (fy hl) ?_
   rw [aH,aa,aE]
   refine ⟨fun _=>?_,fun h=>absurd (by omega) h⟩
   refine ae ha0 ?_
   refine ae hb0 ?_
   refine ae hl0 ?_
   rw [bC,aa,aE]
   refine ⟨fun hk=>?_,fun hk=>?_⟩
   ·rw [if_pos hk] at ht
    rw [wi,aa,i64_in (by omega) (by omega),wi,aa,i64_in (by omega) (by omega),show ((qD (l.take j):Nat):Int) + 1 = ((qD (l.take (j + 1)):Nat):Int) by omega]
    exact ih (j + 1) (by omega) (by omega)
   ·rw [if_neg hk] at ht
    rw [wi,aa,i64_in (by omega) (by omega),show qD (l.take j) = qD (l.take (j + 1)) by omega]
    exact ih (j + 1) (by omega) (by omega)
 exact loop _ 0 rfl (by omega)
def jW (mine others:List aK) (u:aK):Int :=
 if 2048 ≤ mine.length then 6 else if dC u = false then 120
 else if u.kind = 1 then (if u.id = (qD mine:Nat) then 0 else 120)
 else if (fW false u.id others).isSome = false then 120
 else if (fW true u.id mine).isSome then 120
 else if u.kind = 2 /\ sha u.hash ≠ ((fW false u.id others).getD aK.zero).hash then 120 else 0
theorem kd (s:List UInt8):(sha s).length = 32:=gI s
theorem JG {F0:List AId} {G0:ah} {ps:List LP} {s:List UInt8} {K:ag -> ah -> Prop} (hs:Sp F0 G0 ps G) (hK:∀ v G2,Sp F0 G0 (bj 1 v ([s].map .str) :: ps) G2 -> K v G2):bh T im 1 [(0,.str s)] G K :=
 B3 (T:=T) (ts:=im) (e:=bH) (si:=jm) (ie:=iO) lD rfl fZ rfl hs rfl (by decide) hK
end
end Go.Esc.M
namespace Go.Esc.M
open Go Go.Esc
section
variable {F0:List AId} {G0 G:ah} {ps:List LP} {Q:ag -> ah -> Prop}
theorem dJ.use {v w:ag} {mine others:List aK} {u:aK} (hl:fV 36 G v (mine.map aK.av)) (ho:fV 36 G w (others.map aK.av)) (hok:∀ u ∈ mine,u.ok) (hok2:∀ u ∈ others,u.ok) (hlen:mine.length ≤ 9223372036854775807) (hlen2:others.length ≤ 9223372036854775807) (hu:u.ok)
  (hQ:∀ G',Ch [] G [] G' -> Q (.int .i64 (jW mine others u)) G'):al P dJ.n [v,w,u.av] G Q:=by
 refine dJ.sound ?_
 unfold dJ.S
 rw [DL]
 intro i1 f1
 have s1:=(Sp.nil G).row f1 u.av
 refine ae (fy (hl.ch' s1.ch)) ?_
 unfold jW at hQ
 rw [gq,aa,aE]
 refine ⟨fun h=>?_,fun h=>?_⟩
 ·rw [if_pos (by omega)] at hQ
  exact hQ _ s1.ch
 rw [if_neg (by omega)] at hQ
 refine ae (dh (i:=0) s1 rfl hu).2.2.2.2.2 ?_
 refine cy.use hu fun G7 c7=>?_
 have s7:=s1.tmp c7
 rw [fN,aa]
 cases hv:dC u with
 | false=>
  rw [if_pos hv] at hQ
  exact hQ _ s7.ch
 | true=>
  rw [if_neg (by rw [hv]; decide)] at hQ
  rw [Bool.not_true,aM]
  refine ae (dh (i:=0) s7 rfl hu).1 ?_
  rw [bC,aa,aE]
  refine ⟨fun hk1=>?_,fun hk1=>?_⟩
  ·rw [if_pos hk1] at hQ
   refine ae (dh (i:=0) s7 rfl hu).2.1 ?_
   refine eT.use (hl.ch' s7.ch) hlen ?_
   refine ⟨⟨(dh (i:=0) s7 rfl hu).2.1,trivial⟩,?_⟩
   rw [dy,aa,fg]
   exact ⟨fun h=>by rw [if_neg h] at hQ; exact hQ _ s7.ch,fun h=>by rw [if_pos h] at hQ; exact hQ _ s7.ch⟩
  rw [if_neg hk1] at hQ
  refine ae (dh (i:=0) s7 rfl hu).2.1 ?_
  refine eR.use (ho.ch' s7.ch) hok2 hlen2 fun G17 c17=>?_
  have s17:=s7.tmp c17
  have hf1:=o7 (rm:=false) (id:=u.id) hok2
  have hf2:=o7 (rm:=true) (id:=u.id) hok
  rw [JF,aa,JE,aa]
  obtain ⟨A,hA⟩:∃ A,A = fW false u.id others:=⟨_,rfl⟩
  obtain ⟨B,hB⟩:∃ A,A = fW true u.id mine:=⟨_,rfl⟩
  rw [<- hA] at hf1 hQ ⊢
  rw [<- hB] at hf2 hQ
  intro i20 f20
  have s20:=s17.row f20 aK.zero.av
  refine kY (i:=0) s20 rfl aK.bD hf1 fun G22 s22=>?_
  refine ae (dh (i:=1) s22 rfl hu).2.1 ?_
  refine cP.use (hl.ch' s22.ch) hok hlen fun G25 c25=>?_
  have s25:=s22.tmp c25
  rw [<- hB,JF,aa,JE,aa]
  intro i28 f28
  have s28:=s25.row f28 aK.zero.av
  refine kY (i:=0) s28 rfl aK.bD hf2 fun G30 s30=>?_
  have s30:Sp [] G [ar i28 (B.getD aK.zero).av,ar i20 (A.getD aK.zero).av,ar i1 u.av] G30:=s30
  intro J46
  have bad:jW mine others u = 120 -> J46 (.bool true) G30:=by
   intro h
   simp -zeta only [J46,aX]
   have:=hQ _ s30.ch
   unfold jW at h
   rw [if_neg (by omega),if_neg (by rw [hv]; decide),if_neg hk1,<- hA,<- hB] at h
   rwa [h] at this
  have hnx:jW mine others u = if A.isSome = false then 120 else if B.isSome then 120 else if u.kind = 2 /\ sha u.hash ≠ (A.getD aK.zero).hash then 120 else 0:=by
   unfold jW
   rw [if_neg (by omega),if_neg (by rw [hv]; decide),if_neg hk1,<- hA,<- hB]
  rw [fN,aa]
  cases hAs:A.isSome with
  | false=>
   rw [if_pos hAs] at hnx
   rw [Bool.not_false,aX]
   exact bad hnx
  | true=>
   rw [if_neg (by rw [hAs]; decide)] at hQ hnx
   rw [Bool.not_true,aM]
   cases hBs:B.isSome with
   | true=>
    rw [if_pos hBs] at hnx
    exact bad hnx
   | false=>
    rw [if_neg (by rw [hBs]; decide)] at hQ
    simp -zeta only [J46,aM]
    refine ae (dh (i:=2) s30 rfl hu).1 ?_
    rw [bC,aa,aE]
    refine ⟨fun hk2=>?_,fun hk2=>?_⟩
    ·obtain ⟨x,hx,hxs⟩:=Gi hu (ar.own (i:=2) s30 rfl)
     refine ae hx ?_
     refine ae (jZ (si:=fS) (ie:=fY) (di:=iO) fu rfl dz rfl fZ rfl hxs) ?_
     refine ae (dh (i:=1) s30 rfl hf1).2.2.2.1 ?_
     refine JG s30 fun v37 G38 s38=>?_
     have hh:=hu.hash
     refine eI.use (xs:=[u.hash]) (bj.own (i:=0) s38 rfl).is (by simp) (by simp; omega) fun G40 c40=>?_
     have s40:=s38.tmp c40
     refine ⟨⟨(dh (i:=2) s40 rfl hf1).2.2.2.1,trivial⟩,?_⟩
     have e1:[u.hash].flatten = u.hash:=by simp
     rw [e1,uW (kd _) hf1.hash,aa,fg]
     refine ⟨fun h=>?_,fun h=>?_⟩
     ·rw [if_pos ⟨hk2,h⟩] at hQ
      exact hQ _ s40.ch
     ·rw [if_neg (fun hh=>hh.2 h)] at hQ
      exact hQ _ s40.ch
    ·rw [if_neg (fun hh=>hk2 hh.1)] at hQ
     exact hQ _ s30.ch
theorem oj {l:List aK} (h:∀ p ∈ l,p.ok):Esc.uni 36 (l.map aK.av) = true /\ kT (l.map aK.av) = true:=by
 refine ⟨by simp only [Esc.uni,List.all_map,List.all_eq_true]; intro p hp; simp [aK.sz (h p hp)],?_⟩
 induction l with
 | nil=>rfl
 | cons p l ih=>simp [kT,aK.okv,ih (fun p hp=>h p (by simp [hp]))]
end
end Go.Esc.M
namespace Go.Esc.M
open Go Go.Esc
end Go.Esc.M
namespace Go.Esc.M
open Go Go.Esc
def Kx (u:aK) (t:Bool) (b:aK):Bool:=if b.kind = 1 /\ b.id = u.id then decide (u.kind = 3) || decide (sha u.hash = b.hash) else t
def Kw (u:aK) (B:List aK):Bool:=B.foldl (Kx u) false
def Je (A B:List aK):Prop:=∀ i u,A[i]? = some u -> if u.kind = 1 then u.id = ((qD (A.take i):Nat):Int) else Kw u B = true /\ ∀ k v,k < i -> A[k]? = some v -> v.kind ≠ 1 -> v.id ≠ u.id
theorem Db {u:aK} (h:dC u = true):u.kind = 1 \/ u.kind = 2 \/ u.kind = 3:=by
 obtain ⟨_,_,hk⟩:=kO h
 omega
theorem zj {A:List aK} {id:Int} (hv:∀ a ∈ A,dC a = true) (h:(fW true id A).isSome = false):∀ a ∈ A,a.kind ≠ 1 -> a.id ≠ id:=by
 intro a ha hk e
 unfold fW at h
 rw [Option.isSome_eq_false_iff,Option.isNone_iff_eq_none,List.find?_eq_none] at h
 refine h a ha ?_
 unfold vY
 rw [decide_eq_true e]
 rcases Db (hv a ha) with h1 | h1 | h1
 ·exact absurd h1 hk
 ·simp [h1]
 ·simp [h1]
theorem rl {B:List aK} {id:Int} (h:(fW false id B).isSome = true):∃ b,fW false id B = some b /\ b ∈ B /\ b.kind = 1 /\ b.id = id:=by
 obtain ⟨b,hb⟩:=Option.isSome_iff_exists.1 h
 refine ⟨b,hb,List.mem_of_find?_eq_some hb,?_⟩
 have:=List.find?_some hb
 unfold vY at this
 simp only [cond_false,Bool.and_eq_true,decide_eq_true_eq] at this
 exact ⟨this.2,this.1⟩
theorem mh {A O:List aK} {u:aK} (h:jW A O u = 0):dC u = true /\ (u.kind = 1 -> u.id = (qD A:Nat)) /\ (u.kind ≠ 1 -> (fW false u.id O).isSome = true /\ (fW true u.id A).isSome = false /\ ¬ (u.kind = 2 /\ sha u.hash ≠ ((fW false u.id O).getD aK.zero).hash)):=by
 unfold jW at h
 split at h
 ·cases h
 split at h
 ·cases h
 rename_i hv
 have hv:dC u = true:=by simpa using hv
 split at h
 ·rename_i hk
  split at h
  ·rename_i hid
   exact ⟨hv,fun _=>hid,fun hn=>absurd hk hn⟩
  ·cases h
 rename_i hk
 split at h
 ·cases h
 rename_i h1
 split at h
 ·cases h
 rename_i h2
 split at h
 ·cases h
 rename_i h3
 exact ⟨hv,fun hn=>absurd hn hk,fun _=>⟨(Bool.not_eq_false _).mp h1,(Bool.not_eq_true _).mp h2,h3⟩⟩
theorem Je.nil (B:List aK):Je [] B:=fun i u h=>by simp at h
def Kl (A:List aK) (id:Int):Bool:=A.any fun a=>!decide (a.kind = 1) && decide (a.id = id)
theorem Ev {A:List aK} {id:Int} (hv:∀ a ∈ A,dC a = true):Kl A id = (fW true id A).isSome:=by
 cases h:(fW true id A).isSome with
 | false=>
  refine List.any_eq_false.2 fun a ha=>?_
  have:=zj hv h a ha
  by_cases hk:a.kind = 1
  ·simp [hk]
  ·simp [hk,this hk]
 | true=>
  obtain ⟨b,hb⟩:=Option.isSome_iff_exists.1 h
  refine List.any_eq_true.2 ⟨b,List.mem_of_find?_eq_some hb,?_⟩
  have:=List.find?_some hb
  unfold vY at this
  simp only [cond_true,Bool.and_eq_true,Bool.or_eq_true,decide_eq_true_eq] at this
  have hk:b.kind ≠ 1:=by omega
  simp [hk,this.1]
end Go.Esc.M
namespace Go.Esc.M
open Go Go.Esc
section
variable {F0:List AId} {G0 G:ah} {ps:List LP} {Q:ag -> ah -> Prop}
theorem LN {v:ag} {l:List aK} {j:Nat} {p:aK} (h:fV 36 G v (l.map aK.av)) (hj:l[j]? = some p) :
  ∃ a b,aL T ak v (.int .i64 (j:Int)) = some a /\ bx T aI a 1 = some b /\ lq T G me b = some (.int .i64 p.id) :=
 jb h hj (f:=1) rfl cA (by decide) rfl rfl rfl
theorem Lk {v:ag} {l:List aK} {j:Nat} {p:aK} (h:fV 36 G v (l.map aK.av)) (hj:l[j]? = some p) :
  ∃ a b,aL T ak v (.int .i64 (j:Int)) = some a /\ bx T aI a 0 = some b /\ lq T G au b = some (.int .i64 p.kind) :=
 jb h hj (f:=0) rfl hO (by decide) rfl rfl rfl
end
end Go.Esc.M
namespace Go.Esc.M
open Go Go.Esc
theorem HP (a:Int) {t:TypeId} {T:Tbl}:aw T .shr t (.int .i64 a) (.int .u64 30) = some (.int .i64 (a / 1073741824)):=by
 rw [l9 _ _ _ _ _ _ (by decide)]
 have h1:min (30:Int).toNat IntKind.i64.bits = 30:=by decide
 have h2:(2:Int) ^ 30 = 1073741824:=by decide
 rw [h1,h2,Int.fdiv_eq_ediv_of_nonneg _ (by decide)]
theorem I9 (a:Int) {t:TypeId} {T:Tbl}:aw T .and t (.int .i64 a) (.int .i64 1073741823) = some (.int .i64 (a % 1073741824)):=by
 have:=DE a 30 (by decide)
 have e1:((2 ^ 30 - 1:Nat):Int) = 1073741823:=by decide
 have e2:((2 ^ 30:Nat):Int) = 1073741824:=by decide
 rw [e1,e2] at this
 rw [rL,this]
theorem LH {x y:Nat} (hx:x ≤ 1073741824) (hy:y < 1073741824) {t:TypeId} {T:Tbl}:aw T .or t (.int .i64 ((x * 1073741824:Nat):Int)) (.int .i64 (y:Int)) = some (.int .i64 ((x * 1073741824 + y:Nat):Int)):=by
 have hb:IntKind.i64.bits = 64:=rfl
 have e64:∀ z:Nat,(BitVec.ofInt 64 (z:Int)).toNat = z % 2 ^ 64:=fun z=>by rw [BitVec.ofInt_natCast,BitVec.toNat_ofNat]
 have hor:2 ^ 30 * x + y = 2 ^ 30 * x ||| y:=Nat.two_pow_add_eq_or_of_lt hy x
 have e30:(2:Nat) ^ 30 = 1073741824:=by decide
 have e64':(2:Nat) ^ 64 = 18446744073709551616:=by decide
 rw [e30,Nat.mul_comm] at hor
 have hx2:x * 1073741824 < 18446744073709551616:=by omega
 have hy2:y < 18446744073709551616:=by omega
 rw [E8,hb,BitVec.toNat_or,e64,e64,e64',Nat.mod_eq_of_lt hx2,Nat.mod_eq_of_lt hy2,<- hor,i64_in (by omega) (by omega)]
theorem K8 {x:Nat} (hx:x ≤ 1073741824) {t:TypeId} {T:Tbl}:aw T .shl t (.int .i64 (x:Int)) (.int .u64 30) = some (.int .i64 ((x * 1073741824:Nat):Int)):=by
 rw [yg _ _ _ _ _ _ (by decide)]
 have h1:min (30:Int).toNat IntKind.i64.bits = 30:=by decide
 have h2:(2:Int) ^ 30 = 1073741824:=by decide
 rw [h1,h2,i64_in (by omega) (by omega)]
 congr 2
structure Wd (n:Nat) (u l:Int):Prop where
 u1:-((n:Int) * 1073741824) ≤ u
 u2:u ≤ (n:Int) * 1073741824
 l1:-((n:Int) * 1073741824) ≤ l
 l2:l ≤ (n:Int) * 1073741824
def om (u l:Int):Int:=u * 1073741824 + l
def pY (t:Int):Int:=if t < 0 then -1 else if t < 1152921505680588800 then t else 1152921504606846977
def Dm (t:Int):Int:=if t < 0 then 0 else if t < 1152921504606846976 then t else 1152921504606846976
def amt (a:Int):Prop:=0 ≤ a /\ a ≤ 1152921504606846976
section
variable {F0:List AId} {G0 G:ah} {ps:List LP} {Q:ag -> ah -> Prop}
theorem dD {T':TypeId} {ti:TI} {id:AId} {a b:Int} (hg:G id = some (.own (bR a b))) (hT:T T' = some ti) (hf:fa ti (bR a b) = true) :
  lq T G me (.ptr id [0] 0) = some (.int .i64 a) /\ lq T G me (.ptr id [1] 1) = some (.int .i64 b) /\ lq T G T' (.ptr id [] 0) = some (bR a b) :=
 ⟨dQ (c:=.int .i64 a) hg rfl rfl rfl cA rfl,dQ (c:=.int .i64 b) hg rfl rfl rfl cA rfl,cJ hT hg hf⟩
theorem zu (a b:Int):bk T ck [(0,.int .i64 a),(1,.int .i64 b)] = some (bR a b):=rfl
theorem E0:ka = bR 0 0:=rfl
theorem kN {i:Nat} {id:AId} {a b c d:Int} (hs:Sp F0 G0 ps G) (hi:ps[i]? = some (ar id (bR a b))) {K:ah -> Prop} (hK:∀ G',Sp F0 G0 (ps.set i (ar id (bR c d))) G' -> K G'):wg (ax T G ck (.ptr id [] 0) (bR c d)) K:=by
 refine fK (il fG (ar.own hs hi) rfl rfl rfl) ?_
 exact hK _ (Sp.setRow hs hi _)
theorem cR.use {n:Nat} {u l a:Int} (hw:Wd n u l) (hn:n ≤ 1073741824) (ha:amt a) (hQ:∀ u' l' G',Ch [] G [] G' -> Wd (n + 1) u' l' -> om u' l' = om u l + a -> Q (bR u' l') G'):al P cR.n [bR u l,.int .i64 a] G Q:=by
 refine cR.sound ?_
 unfold cR.S
 rw [E0]
 obtain ⟨h1,h2,h3,h4⟩:=hw
 obtain ⟨h5,h6⟩:=ha
 intro i1 f1
 have s1:=(Sp.nil G).row f1 (bR u l)
 intro i3 f3
 have s3:=s1.row f3 (bR 0 0)
 obtain ⟨l1,l2,_⟩:=dD (ar.own (i:=1) s3 rfl) fG rfl
 refine ae l1 ?_
 refine ae (HP a) ?_
 rw [wi,i64_in (by omega) (by omega),aa]
 refine ae l2 ?_
 refine ae (I9 a) ?_
 rw [wi,i64_in (by omega) (by omega),aa]
 refine ae (zu _ _) ?_
 refine kN (i:=0) s3 rfl fun G12 s12=>?_
 refine ae (dD (ar.own (i:=0) s12 rfl) fG rfl).2.2 ?_
 exact hQ _ _ _ s12.ch ⟨by omega,by omega,by omega,by omega⟩ (by unfold om; omega)
theorem dR.use {n:Nat} {u l a:Int} (hw:Wd n u l) (hn:n ≤ 1073741824) (ha:amt a) (hQ:∀ u' l' G',Ch [] G [] G' -> Wd (n + 1) u' l' -> om u' l' = om u l - a -> Q (bR u' l') G'):al P dR.n [bR u l,.int .i64 a] G Q:=by
 refine dR.sound ?_
 unfold dR.S
 rw [E0]
 obtain ⟨h1,h2,h3,h4⟩:=hw
 obtain ⟨h5,h6⟩:=ha
 intro i1 f1
 have s1:=(Sp.nil G).row f1 (bR u l)
 intro i3 f3
 have s3:=s1.row f3 (bR 0 0)
 obtain ⟨l1,l2,_⟩:=dD (ar.own (i:=1) s3 rfl) fG rfl
 refine ae l1 ?_
 refine ae (HP a) ?_
 rw [bS,i64_in (by omega) (by omega),aa]
 refine ae l2 ?_
 refine ae (I9 a) ?_
 rw [bS,i64_in (by omega) (by omega),aa]
 refine ae (zu _ _) ?_
 refine kN (i:=0) s3 rfl fun G12 s12=>?_
 refine ae (dD (ar.own (i:=0) s12 rfl) fG rfl).2.2 ?_
 exact hQ _ _ _ s12.ch ⟨by omega,by omega,by omega,by omega⟩ (by unfold om; omega)
theorem cZ.use {n:Nat} {u l:Int} (hw:Wd n u l) (hn:n ≤ 1073741824) (hQ:∀ G',Ch [] G [] G' -> Q (.int .i64 (pY (om u l))) G'):al P cZ.n [bR u l] G Q:=by
 refine cZ.sound ?_
 unfold cZ.S
 obtain ⟨h1,h2,h3,h4⟩:=hw
 intro i1 f1
 have s1:=(Sp.nil G).row f1 (bR u l)
 obtain ⟨l1,l2,_⟩:=dD (ar.own (i:=0) s1 rfl) fG rfl
 refine ae l1 ?_
 refine ae l2 ?_
 refine ae (HP l) ?_
 rw [wi,i64_in (by omega) (by omega),aa]
 have hQ:=hQ _ s1.ch
 have ht:om u l = (u + l / 1073741824) * 1073741824 + l % 1073741824:=by unfold om; omega
 unfold pY at hQ
 rw [aH,aa,aE]
 refine ⟨fun h=>?_,fun h=>?_⟩
 ·rw [if_pos (by omega)] at hQ
  exact hQ
 rw [if_neg (by omega)] at hQ
 rw [de,aa,aE]
 refine ⟨fun h2=>?_,fun h2=>?_⟩
 ·rw [if_neg (by omega)] at hQ
  exact hQ
 rw [if_pos (by omega)] at hQ
 obtain ⟨x,hx⟩:∃ x:Nat,u + l / 1073741824 = (x:Int):=⟨(u + l / 1073741824).toNat,by omega⟩
 obtain ⟨y,hy⟩:∃ y:Nat,l % 1073741824 = (y:Int):=⟨(l % 1073741824).toNat,by omega⟩
 rw [hx] at ht h h2 ⊢
 rw [hy] at ht
 refine ae (K8 (by omega)) ?_
 refine ae l2 ?_
 refine ae (I9 l) ?_
 rw [hy]
 refine ae (LH (by omega) (by omega)) ?_
 have:((x * 1073741824 + y:Nat):Int) = om u l:=by rw [ht]; omega
 rw [this]
 exact hQ
theorem xK:iJ = bR 0 0:=rfl
theorem oT (a b:Int):bk T aY [(0,.int .i64 a),(1,.int .i64 b)] = some (bR a b):=rfl
theorem jk {i:Nat} {id:AId} {a b c d:Int} (hs:Sp F0 G0 ps G) (hi:ps[i]? = some (ar id (bR a b))) {K:ah -> Prop} (hK:∀ G',Sp F0 G0 (ps.set i (ar id (bR c d))) G' -> K G'):wg (ax T G aY (.ptr id [] 0) (bR c d)) K:=by
 refine fK (il b8 (ar.own hs hi) rfl rfl rfl) ?_
 exact hK _ (Sp.setRow hs hi _)
theorem yD {i:Nat} {id:AId} {a b d:Int} (hs:Sp F0 G0 ps G) (hi:ps[i]? = some (ar id (bR a b))) {K:ah -> Prop} (hK:∀ G',Sp F0 G0 (ps.set i (ar id (bR a d))) G' -> K G'):wg (ax T G me (.ptr id [1] 1) (.int .i64 d)) K:=by
 refine fK (km (c:=.int .i64 d) (u:=.int .i64 b) (ar.own hs hi) rfl rfl cA rfl rfl rfl) ?_
 exact hK _ (Sp.setRow hs hi _)
def wdR (t:Int):ag:=bR (t / 1152921504606846976) (t % 1152921504606846976)
def small (t:Int):Prop:=-1329227995784915872903807060280344576 ≤ t /\ t ≤ 1329227995784915872903807060280344576
theorem cU.use {t a:Int} (ht:small t) (ha:amt a) (hQ:∀ G',Ch [] G [] G' -> Q (wdR (t + a)) G'):al P cU.n [wdR t,.int .i64 a] G Q:=by
 refine cU.sound ?_
 unfold cU.S
 rw [xK]
 obtain ⟨h1,h2⟩:=ht
 obtain ⟨h5,h6⟩:=ha
 unfold wdR at hQ ⊢
 obtain ⟨U,hU⟩:∃ U,U = t / 1152921504606846976:=⟨_,rfl⟩
 obtain ⟨R,hR⟩:∃ R,R = t % 1152921504606846976:=⟨_,rfl⟩
 rw [<- hU,<- hR]
 have hR1:0 ≤ R /\ R < 1152921504606846976:=by omega
 have hU1:-1152921504606846977 ≤ U /\ U ≤ 1152921504606846977:=by omega
 have htt:t = U * 1152921504606846976 + R:=by omega
 intro i1 f1
 have s1:=(Sp.nil G).row f1 (bR U R)
 intro i3 f3
 have s3:=s1.row f3 (bR 0 0)
 have fin:∀ (c d:Int) (G':ah) (ps:List LP),Sp [] G (ar i3 (bR 0 0) :: ps) G' -> (t + a) / 1152921504606846976 = c -> (t + a) % 1152921504606846976 = d -> wg (ax T G' aY (.ptr i3 [] 0) (bR c d)) fun G10=>wv (lq T G10 aY (.ptr i3 [] 0)) fun v11=>Q v11 G10:=by
  intro c d G' ps s hc hd
  refine jk (i:=0) s rfl fun G10 s10=>?_
  refine ae (dD (ar.own (i:=0) s10 rfl) b8 rfl).2.2 ?_
  rw [hc,hd] at hQ
  exact hQ _ s10.ch
 obtain ⟨l1,l2,_⟩:=dD (ar.own (i:=1) s3 rfl) b8 rfl
 rw [bC,aa,aE]
 refine ⟨fun h=>?_,fun h=>?_⟩
 ·refine ae l1 ?_
  rw [wi,i64_in (by omega) (by omega),aa]
  refine ae l2 ?_
  refine ae (oT _ _) ?_
  exact fin _ _ _ _ s3 (by omega) (by omega)
 ·refine ae l2 ?_
  rw [wi,i64_in (by omega) (by omega),aa]
  refine yD (i:=1) s3 rfl fun G14 s14=>?_
  obtain ⟨k1,k2,k3⟩:=dD (ar.own (i:=1) s14 rfl) b8 rfl
  refine ae k2 ?_
  rw [gq,aa,aE]
  refine ⟨fun h=>?_,fun h=>?_⟩
  ·refine ae k1 ?_
   rw [wi,i64_in (by omega) (by omega),aa]
   refine ae k2 ?_
   rw [bS,i64_in (by omega) (by omega),aa]
   refine ae (oT _ _) ?_
   exact fin _ _ _ _ s14 (by omega) (by omega)
  ·refine ae k3 ?_
   exact fin _ _ _ _ s14 (by omega) (by omega)
theorem dc.use {t a:Int} (ht:small t) (ha:amt a) (hQ:∀ G',Ch [] G [] G' -> Q (wdR (t - a)) G'):al P dc.n [wdR t,.int .i64 a] G Q:=by
 refine dc.sound ?_
 unfold dc.S
 rw [xK]
 obtain ⟨h1,h2⟩:=ht
 obtain ⟨h5,h6⟩:=ha
 unfold wdR at hQ ⊢
 obtain ⟨U,hU⟩:∃ U,U = t / 1152921504606846976:=⟨_,rfl⟩
 obtain ⟨R,hR⟩:∃ R,R = t % 1152921504606846976:=⟨_,rfl⟩
 rw [<- hU,<- hR]
 have hR1:0 ≤ R /\ R < 1152921504606846976:=by omega
 have hU1:-1152921504606846977 ≤ U /\ U ≤ 1152921504606846977:=by omega
 have htt:t = U * 1152921504606846976 + R:=by omega
 intro i1 f1
 have s1:=(Sp.nil G).row f1 (bR U R)
 intro i3 f3
 have s3:=s1.row f3 (bR 0 0)
 have fin:∀ (c d:Int) (G':ah) (ps:List LP),Sp [] G (ar i3 (bR 0 0) :: ps) G' -> (t - a) / 1152921504606846976 = c -> (t - a) % 1152921504606846976 = d -> wg (ax T G' aY (.ptr i3 [] 0) (bR c d)) fun G10=>wv (lq T G10 aY (.ptr i3 [] 0)) fun v11=>Q v11 G10:=by
  intro c d G' ps s hc hd
  refine jk (i:=0) s rfl fun G10 s10=>?_
  refine ae (dD (ar.own (i:=0) s10 rfl) b8 rfl).2.2 ?_
  rw [hc,hd] at hQ
  exact hQ _ s10.ch
 obtain ⟨l1,l2,_⟩:=dD (ar.own (i:=1) s3 rfl) b8 rfl
 rw [bC,aa,aE]
 refine ⟨fun h=>?_,fun h=>?_⟩
 ·refine ae l1 ?_
  rw [bS,i64_in (by omega) (by omega),aa]
  refine ae l2 ?_
  refine ae (oT _ _) ?_
  exact fin _ _ _ _ s3 (by omega) (by omega)
 ·refine ae l2 ?_
  rw [bS,i64_in (by omega) (by omega),aa]
  refine yD (i:=1) s3 rfl fun G14 s14=>?_
  obtain ⟨k1,k2,k3⟩:=dD (ar.own (i:=1) s14 rfl) b8 rfl
  refine ae k2 ?_
  rw [aH,aa,aE]
  refine ⟨fun h=>?_,fun h=>?_⟩
  ·refine ae k1 ?_
   rw [bS,i64_in (by omega) (by omega),aa]
   refine ae k2 ?_
   rw [wi,i64_in (by omega) (by omega),aa]
   refine ae (oT _ _) ?_
   exact fin _ _ _ _ s14 (by omega) (by omega)
  ·refine ae k3 ?_
   exact fin _ _ _ _ s14 (by omega) (by omega)
theorem eG.use {t:Int} (ht:small t) (hQ:∀ G',Ch [] G [] G' -> Q (.int .i64 (Dm t)) G'):al P eG.n [wdR t] G Q:=by
 refine eG.sound ?_
 unfold eG.S
 unfold wdR
 obtain ⟨U,hU⟩:∃ U,U = t / 1152921504606846976:=⟨_,rfl⟩
 obtain ⟨R,hR⟩:∃ R,R = t % 1152921504606846976:=⟨_,rfl⟩
 rw [<- hU,<- hR]
 intro i1 f1
 have s1:=(Sp.nil G).row f1 (bR U R)
 obtain ⟨l1,l2,_⟩:=dD (ar.own (i:=0) s1 rfl) b8 rfl
 have hQ:=hQ _ s1.ch
 unfold Dm at hQ
 refine ae l1 ?_
 rw [aH,aa,aE]
 refine ⟨fun h=>?_,fun h=>?_⟩
 ·rw [if_pos (by omega)] at hQ
  exact hQ
 rw [if_neg (by omega)] at hQ
 refine ae l1 ?_
 rw [de,aa,aE]
 refine ⟨fun h2=>?_,fun h2=>?_⟩
 ·rw [if_neg (by omega)] at hQ
  exact hQ
 rw [if_pos (by omega)] at hQ
 refine ae l2 ?_
 have e:ag.int .i64 R = .int .i64 t:=by
  have:R = t:=by omega
  rw [this]
 rw [e]
 exact hQ
end
end Go.Esc.M
namespace Go.Esc
open Go Go.RowKit
theorem iu.jf {n:Nat} {G:ah} {v:ag} {vs:List ag} (h:iu n G v vs):fV n G v vs:=by
 rcases h with ⟨id,p,st,off,len,cap,rfl,_,h⟩ | h
 ·exact .inl ⟨_,_,_,_,_,_,rfl,h⟩
 ·exact .inr h
theorem iu.mv {n:Nat} {G G':ah} {E:List AId} {v:ag} {vs:List ag} (h:iu n G v vs) (hc:Ch [] G E G'):iu n G' v vs:=by
 rcases h with ⟨id,p,st,off,len,cap,rfl,hl,h⟩ | h
 ·refine .inl ⟨_,_,_,_,_,_,rfl,hl,oY (fun j o hj=>hc.others j o hj (by simp)) h⟩
 ·exact .inr h
theorem iu.take {T:Tbl} {t e:TypeId} {i ie:TI} (ht:T t = some i) (hd:i.desc = .slice e) (he:T e = some ie) {G:ah} {v:ag} {vs:List ag} (h:iu ie.size G v vs) {k:IntKind} {m:Nat} {x:Int} (hx:x = (m:Int)) (hm:m ≤ vs.length) :
  ∃ v',fj T t v none (some (.int k x)) none = some v' /\ iu ie.size G v' (vs.take m):=by
 subst hx
 rcases h with ⟨id,p,st,off,len,cap,rfl,hlc,h⟩ | ⟨rfl,rfl⟩
 ·obtain ⟨cs,h1,h0,h2,h3,rfl,harr⟩:=ll h
  have hl:((cs.drop st).take len).length = len:=by rw [List.length_take,List.length_drop]; omega
  rw [hl] at hm
  refine ⟨.slice id p st off m cap,?_,.inl ⟨id,p,st,off,m,cap,rfl,by omega,?_⟩⟩
  ·simp only [fj,ht,hd,he]
   rw [nE (by omega)]
   simp
  ·simp only [fT,harr]
   rw [if_pos (by omega),List.take_take,Nat.min_eq_left hm]
 ·simp at hm
  subst hm
  exact ⟨.nilSlice,by simp [fj,ht,hd,he,jh,j7],.inr ⟨rfl,by simp⟩⟩
def oR (es:List (Int × Int)):List (ag × ag):=es.map fun p=>(.int .i64 p.1,.int .i64 p.2)
def oO:List (Int × Int) -> Int -> Option Int
 | [],_=>none
 | p :: es,k=>if k = p.1 then some p.2 else oO es k
theorem sX (k:Int):∀ (es:List (Int × Int)) (i:Nat),match oO es k with
  | some v=>∃ j,nv (.int .i64 k) (oR es) i = some (some (j,.int .i64 v))
  | none=>nv (.int .i64 k) (oR es) i = some none
 | [],i=>rfl
 | p :: es,i=>by
  unfold oO
  by_cases h:k = p.1
  ·rw [if_pos h]
   exact ⟨i,by simp [oR,nv,tz,h]⟩
  ·rw [if_neg h]
   have ih:=sX k es (i + 1)
   have e:nv (.int .i64 k) (oR (p :: es)) i = nv (.int .i64 k) (oR es) (i + 1):=by simp [oR,nv,tz,h]
   rw [e]
   exact ih
theorem uP (k:Int):∀ (es:List (Int × Int)) (a v:Int),oO (es ++ [(a,v)]) k = match oO es k with
  | some x=>some x
  | none=>if k = a then some v else none
 | [],a,v=>rfl
 | p :: es,a,v=>by
  have ih:=uP k es a v
  simp only [List.cons_append,oO]
  by_cases h:k = p.1
  ·rw [if_pos h,if_pos h]
  ·rw [if_neg h,if_neg h,ih]
theorem wV (es:List (Int × Int)) (a v:Int):oR es ++ [(.int .i64 a,.int .i64 v)] = oR (es ++ [(a,v)]):=by simp [oR]
end Go.Esc
namespace Go.Esc.M
open Go Go.Esc
theorem tv0 (v:ag) (e:ag):aW (.tuple [v,e]) 0 = some v:=rfl
theorem tv1 (v:ag) (e:ag):aW (.tuple [v,e]) 1 = some e:=rfl
def lr (id:Int) (u:aK):Bool:=decide (u.kind ≠ 1) && (decide (u.id = id) && dC u)
def je (id:Int):List aK -> Int
 | []=>0
 | u :: l=>if lr id u = true then u.kind else je id l
theorem rh {id:Int} {u:aK} (h:lr id u = true):u.kind ≠ 0:=by
 simp only [lr,Bool.and_eq_true,decide_eq_true_eq] at h
 have:=(kO h.2.2).2.2
 omega
theorem pQ (id:Int):∀ (a b:List aK),je id (a ++ b) = if je id a = 0 then je id b else je id a
 | [],b=>rfl
 | u :: a,b=>by
  have ih:=pQ id a b
  by_cases h:lr id u = true
  ·have hk:=rh h
   have e1:je id (u :: (a ++ b)) = u.kind:=if_pos h
   have e2:je id (u :: a) = u.kind:=if_pos h
   rw [List.cons_append,e1,e2,if_neg hk]
  ·have e1:je id (u :: (a ++ b)) = je id (a ++ b):=if_neg h
   have e2:je id (u :: a) = je id a:=if_neg h
   rw [List.cons_append,e1,e2,ih]
theorem vT {id:Int} {l:List aK} {j:Nat} {u:aK} (h:l[j]? = some u):je id (l.take (j + 1)) = if je id (l.take j) = 0 then (if lr id u = true then u.kind else 0) else je id (l.take j):=by
 rw [List.take_add_one,h,pQ]
 rfl
def Ek (x:Int):Option Int:=if x = 0 then none else some x
def dP (l:List aK) (n:Int):List aK:=l.take n.toNat
theorem o8 {l:List aK} {n:Int} (h:∀ u ∈ l,u.ok):∀ u ∈ dP l n,u.ok:=fun u hu=>h u (List.mem_of_mem_take hu)
theorem Mf (l:List aK) (n:Int):(dP l n).length ≤ l.length:=by unfold dP; rw [List.length_take]; omega
def qE (test:Int -> Bool) (l:List aK):List Int:=(l.filter fun u=>decide (u.kind = 1) && (dC u && test u.id)).map (·.amount)
section
variable {F0:List AId} {G0 G:ah} {ps:List LP} {Q:ag -> ah -> Prop}
theorem HU {es:List (Int × Int)} {mid:AId} {k:Int} (hg:G mid = some (.map (oR es))):ja T G ju (.map mid) (.int .i64 k) false = some (.int .i64 ((oO es k).getD 0)):=by
 have hf:jX jy.desc (.int .i64 k) = true:=rfl
 have h:=sX k es 0
 have hd:kh.desc = .map me au:=rfl
 have hz:mf.zero = .int .i64 0:=rfl
 simp only [ja,oM,hd,cA,hO,hf,if_true,rY,hg]
 cases hl:oO es k with
 | none=>rw [hl] at h; rw [h]; simp [hz]
 | some v=>rw [hl] at h; obtain ⟨j,h⟩:=h; rw [h]; simp
theorem Gm {es:List (Int × Int)} {mid:AId} {k:Int} (hg:G mid = some (.map (oR es))):ja T G ju (.map mid) (.int .i64 k) true = some (.tuple [.int .i64 ((oO es k).getD 0),.bool (oO es k).isSome]):=by
 have hf:jX jy.desc (.int .i64 k) = true:=rfl
 have h:=sX k es 0
 have hd:kh.desc = .map me au:=rfl
 have hz:mf.zero = .int .i64 0:=rfl
 simp only [ja,oM,hd,cA,hO,hf,if_true,rY,hg]
 cases hl:oO es k with
 | none=>rw [hl] at h; rw [h]; simp [hz]
 | some v=>rw [hl] at h; obtain ⟨j,h⟩:=h; rw [h]; simp
theorem eF.use {v:ag} {l:List aK} (hl:fV 36 G v (l.map aK.av)) (hok:∀ u ∈ l,u.ok) (hlen:l.length ≤ 1048576)
  (hQ:∀ mid es G',(∀ id,oO es id = Ek (je id l)) -> Sp [] G [mX mid (oR es)] G' -> Q (.map mid) G'):al P eF.n [v] G Q:=by
 refine eF.sound ?_
 unfold eF.S
 intro mid f1
 have s1:=(Sp.nil G).new (p:=mX mid (oR [])) ⟨ah.fc _ _ _,rfl⟩ (Ch.new (o:=.map []) f1)
 refine ae (fy (hl.ch' s1.ch)) ?_
 intro R hR
 have loop:∀ (m j:Nat) (es:List (Int × Int)) (G':ah),l.length - j = m -> j ≤ l.length -> (∀ id,oO es id = Ek (je id (l.take j))) -> Sp [] G [mX mid (oR es)] G' -> R [.map mid,v,.int .i64 (l.length:Int),.int .i64 (j:Int)] G':=by
  intro m
  induction m with
  | zero=>
   intro j es G' hm hj hes sp
   refine hR _ _ _ _ _ ?_
   rw [aH,aa,decide_eq_false (by omega),aM]
   rw [List.take_of_length_le (by omega)] at hes
   exact hQ _ _ _ hes sp
  | succ m ih=>
   intro j es G' hm hj hes sp
   obtain ⟨u,hu⟩:∃ u,l[j]? = some u:=⟨_,List.getElem?_eq_getElem (by omega)⟩
   have huo:=hok u (List.mem_of_getElem? hu)
   refine hR _ _ _ _ _ ?_
   rw [aH,aa,decide_eq_true (by omega),aX]
   have ev:aw T .add au (.int .i64 (j:Int)) (.int .i64 1) = some (.int .i64 ((j + 1:Nat):Int)):=by
    rw [wi,i64_in (by omega) (by omega)]
    rfl
   obtain ⟨a,e1,e2⟩:=oF (hl.ch' sp.ch) hu
   refine ae e1 ?_
   refine ae e2 ?_
   refine C3 sp huo fun i13 G15 s15=>?_
   obtain ⟨l0,l1,l2,l3,l4,l5⟩:=dh (i:=0) s15 rfl huo
   refine ae l1 ?_
   refine ae (Gm (mX.own (i:=1) s15 rfl)) ?_
   refine ae (tv0 _ _) ?_
   refine ae (tv1 _ _) ?_
   intro J32
   have skip:∀ G26,Sp [] G [ar i13 u.av,mX mid (oR es)] G26 -> (lr u.id u = false \/ je u.id (l.take j) ≠ 0) -> J32 (.bool false) G26:=by
    intro G26 s26 hno
    simp -zeta only [J32,aM]
    refine ae ev (ih (j + 1) es G26 (by omega) (by omega) (fun id=>?_) (s26.erase 0))
    rw [hes id,vT hu]
    congr 1
    by_cases h0:je id (l.take j) = 0
    ·rw [if_pos h0,h0]
     by_cases hr:lr id u = true
     ·have hid:u.id = id:=by
       simp only [lr,Bool.and_eq_true,decide_eq_true_eq] at hr
       exact hr.2.1
      subst hid
      rcases hno with hno | hno
      ·rw [hr] at hno; cases hno
      ·exact absurd h0 hno
     ·rw [if_neg hr]
    ·rw [if_neg h0]
   rw [fN,aa]
   have hlk:=hes u.id
   by_cases h0:je u.id (l.take j) = 0
   ·rw [h0] at hlk
    have hlk:oO es u.id = none:=hlk
    rw [hlk]
    show brB (some (.bool true)) _ _
    rw [aX]
    refine ae l0 ?_
    rw [dy,aa]
    by_cases hk:u.kind = 1
    ·rw [decide_eq_true hk,Bool.not_true,aM]
     exact skip _ s15 (.inl (by simp [lr,hk]))
    ·rw [decide_eq_false hk,Bool.not_false,aX]
     refine ae l5 ?_
     refine fX.use huo fun G25 c25=>?_
     have s25:=s15.tmp c25
     cases hv:dC u with
     | false=>exact skip _ s25 (.inl (by simp [lr,hv]))
     | true=>
      simp -zeta only [J32,aX]
      obtain ⟨k0,k1,_,_,_,_⟩:=dh (i:=0) s25 rfl huo
      refine ae k1 ?_
      refine ae k0 ?_
      have hfd:=sX u.id es 0
      rw [hlk] at hfd
      refine BG (T:=T) (i:=kh) (r:=none) oM rfl cA (mX.own (i:=1) s25 rfl) rfl hfd ?_
      have s30:=Sp.sH (j:=1) s25 rfl (oR (es ++ [(u.id,u.kind)]))
      rw [<- wV] at s30
      refine ae ev (ih (j + 1) (es ++ [(u.id,u.kind)]) _ (by omega) (by omega) (fun id=>?_) ?_)
      ·rw [uP,hes id,vT hu]
       by_cases hz:je id (l.take j) = 0
       ·rw [if_pos hz,hz]
        show (if id = u.id then some u.kind else none) = _
        by_cases hid:id = u.id
        ·subst hid
         have hr:lr u.id u = true:=by simp [lr,hk,hv]
         rw [if_pos rfl,if_pos hr,Ek,if_neg (rh hr)]
        ·have hr:lr id u = false:=by
          have:¬ u.id = id:=fun h=>hid h.symm
          simp [lr,this]
         rw [if_neg hid,hr]
         rfl
       ·rw [if_neg hz]
        unfold Ek
        rw [if_neg hz]
      ·rw [<- wV]
       exact s30.erase 0
   ·have hlk:oO es u.id = some (je u.id (l.take j)):=by rw [hlk,Ek,if_neg h0]
    rw [hlk]
    show brB (some (.bool false)) _ _
    rw [aM]
    exact skip _ s15 (.inr h0)
 exact loop l.length 0 [] _ rfl (by omega) (fun id=>rfl) s1
end
end Go.Esc.M
