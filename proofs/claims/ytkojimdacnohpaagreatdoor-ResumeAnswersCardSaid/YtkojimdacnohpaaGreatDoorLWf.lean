import Derived.Test.YtkojimdacnohpaaGreatDoorLWa
import Derived.Test.YtkojimdacnohpaaGreatDoorLPw
import Derived.Test.YtkojimdacnohpaaGreatDoorLDc
import Derived.Test.YtkojimdacnohpaaGreatDoorLMn
import Derived.Test.YtkojimdacnohpaaGreatDoorLSd
import Derived.Test.YtkojimdacnohpaaGreatDoorLSe
set_option maxHeartbeats 16000000
set_option linter.unusedSimpArgs false
set_option linter.unusedVariables false
set_option maxRecDepth 20000
namespace Go.Esc.M
open Go Go.Esc
theorem xZ (a b:Int):IntKind.i64.wrap (IntKind.i64.wrap a - b) = IntKind.i64.wrap (a - b):=by
 simp only [IntKind.wrap,IntKind.bits,IntKind.signed]
 simp
 split <;> split <;> split <;> omega
theorem DO (a b:Int):IntKind.i64.wrap (IntKind.i64.wrap a + b) = IntKind.i64.wrap (a + b):=by
 have:=xZ a (-b)
 rwa [Int.sub_neg,Int.sub_neg] at this
section
variable {F0:List AId} {G0 G:ah} {ps:List LP} {Q:ag -> ah -> Prop}
theorem bP.use {f:StF} {vo vp vh:ag} (h:kW G f vo vp vh) (hQ:∀ G',Ch [] G [] G' -> Q (.bool (xg f.s)) G'):al P bP.n [f.s.av vo vp vh] G Q:=by
 have ho:=h.ok
 have hl:=h.lv
 refine bP.sound ?_
 unfold bP.S
 intro i1 f1
 have s1:=(Sp.nil G).row f1 (f.s.av vo vp vh)
 have hg:=ar.own (i:=0) s1 rfl
 have hQ:=hQ _ s1.ch
 unfold xg at hQ
 refine ae (St.GA hg ho hl) ?_
 rw [dy,aa]
 by_cases h1:f.s.failed = 0
 ·rw [decide_eq_true h1,Bool.not_true,Bool.false_or] at hQ
  rw [decide_eq_true h1,Bool.not_true,aM]
  refine ae (St.GB hg ho hl) ?_
  rw [dy,aa]
  exact hQ
 ·rw [decide_eq_false h1,Bool.not_false,Bool.true_or] at hQ
  rw [decide_eq_false h1,Bool.not_false,aX]
  exact hQ
theorem cS.use {f:StF} {vo vp vh:ag} (h:kW G f vo vp vh) (hQ:∀ G',Ch [] G [] G' -> Q (.bool (AE f)) G'):al P cS.n [f.s.av vo vp vh] G Q:=by
 have ho:=h.ok
 have hl:=h.lv
 refine cS.sound ?_
 unfold cS.S
 intro i1 f1
 have s1:=(Sp.nil G).row f1 (f.s.av vo vp vh)
 have hg:=ar.own (i:=0) s1 rfl
 have hQ:=hQ _ s1.ch
 unfold AE at hQ
 refine ae (St.gG hg ho hl) ?_
 refine ae (fy (h.o.jf.ch' s1.ch)) ?_
 rw [gq,aa]
 by_cases h1:2048 ≤ f.o.length
 ·rw [decide_eq_true h1,Bool.true_or] at hQ
  rw [decide_eq_true (by omega),aX]
  exact hQ
 ·rw [decide_eq_false h1,Bool.false_or] at hQ
  rw [decide_eq_false (by omega),aM]
  refine ae (St.gG hg ho hl) ?_
  refine ae (fy (h.o.jf.ch' s1.ch)) ?_
  refine ae (St.r7 hg ho hl) ?_
  rw [bS,aa,gq,aa]
  exact hQ
theorem bV.use {f:StF} {vo vp vh:ag} (h:kW G f vo vp vh) (hQ:∀ G',Ch [] G [] G' -> Q (bR (nK f.s) (ng f.s)) G'):al P bV.n [f.s.av vo vp vh] G Q:=by
 have ho:=h.ok
 have hl:=h.lv
 refine bV.sound ?_
 unfold bV.S
 intro i1 f1
 have s1:=(Sp.nil G).row f1 (f.s.av vo vp vh)
 intro i3 f3
 have zC:kG = bR 0 0:=rfl
 rw [zC]
 have s3:=s1.row f3 (bR 0 0)
 revert s3
 generalize ah.upd _ i3 _ = G4
 intro s3
 have hg:=ar.own (i:=1) s3 rfl
 refine ae (St.KN hg ho hl) ?_
 refine ae (St.r7 hg ho hl) ?_
 refine ae (v:=.int .i64 (nK f.s)) rfl ?_
 refine ae (St.rf hg ho hl) ?_
 refine ae (St.Iw hg ho hl) ?_
 refine ae (v:=.int .i64 (ng f.s)) rfl ?_
 refine ae (v:=bR (nK f.s) (ng f.s)) rfl ?_
 refine fK (il (c:=bR (nK f.s) (ng f.s)) fR (ar.own (i:=0) s3 rfl) rfl rfl rfl) ?_
 have s4:=Sp.setRow (j:=0) s3 rfl (bR (nK f.s) (ng f.s))
 refine ae (cJ fR (ar.own (i:=0) s4 rfl) rfl) ?_
 exact hQ _ s4.ch
theorem bB.use {v:ag} {l:List aK} {n:Int} (hl:iu 36 G v (l.map aK.av)) (hlen:l.length ≤ 1048576) (hQ:∀ w,iu 36 G w ((dP l n).map aK.av) -> Q w G):al P bB.n [v,.int .i64 n] G Q:=by
 refine bB.sound ?_
 unfold bB.S
 have tk:∀ m:Nat,m ≤ l.length -> l.take m = dP l n -> ∃ w,fj T ak v none (some (.int .i64 (m:Int))) none = some w /\ iu 36 G w ((dP l n).map aK.av):=by
  intro m hm he
  obtain ⟨w,e1,e2⟩:=iu.take (ie:=dA) (k:=.i64) (m:=m) cn rfl fC hl rfl (by rw [List.length_map]; exact hm)
  refine ⟨w,e1,?_⟩
  rw [<- he,List.map_take]
  exact e2
 unfold dP at tk hQ
 rw [aH,aa,aE]
 refine ⟨fun h0=>?_,fun h0=>?_⟩
 ·refine ae (fy hl.jf) ?_
  rw [de,aa,decide_eq_false (by omega),aM]
  obtain ⟨w,e1,e2⟩:=tk 0 (by omega) (by rw [show n.toNat = 0 by omega])
  refine ae e1 ?_
  exact hQ w e2
 ·refine ae (fy hl.jf) ?_
  rw [de,aa,aE]
  refine ⟨fun h1=>?_,fun h1=>?_⟩
  ·refine ae (fy hl.jf) ?_
   obtain ⟨w,e1,e2⟩:=tk l.length (Nat.le_refl _) (by rw [List.take_length,List.take_of_length_le (by omega)])
   refine ae e1 ?_
   exact hQ w e2
  ·obtain ⟨w,e1,e2⟩:=tk n.toNat (by omega) rfl
   rw [Int.toNat_of_nonneg (by omega)] at e1
   refine ae e1 ?_
   exact hQ w e2
theorem bQ.use {v:ag} {l:List aK} {id k:Int} (hl:fV 36 G v (l.map aK.av)) (hlen:l.length ≤ 1048576) (hQ:Q (.bool (nF l id k)) G):al P bQ.n [v,.int .i64 id,.int .i64 k] G Q:=by
 refine bQ.sound ?_
 unfold bQ.S
 intro R hR
 have loop:∀ (n j:Nat),l.length - j = n -> j ≤ l.length -> nF (l.drop j) id k = nF l id k -> R [v,.int .i64 id,.int .i64 k,.int .i64 (j:Int)] G:=by
  intro n
  induction n with
  | zero=>
   intro j hn hj he
   have:j = l.length:=by omega
   subst this
   rw [List.drop_length] at he
   refine hR _ _ _ _ _ ?_
   refine ae (fy hl) ?_
   rw [aH,aa,aE]
   refine ⟨fun h=>absurd h (by omega),fun _=>?_⟩
   rw [<- he] at hQ
   exact hQ
  | succ n ih=>
   intro j hn hj he
   obtain ⟨u,hu⟩:∃ u,l[j]? = some u:=⟨_,List.getElem?_eq_getElem (by omega)⟩
   obtain ⟨a0,b0,ha0,hb0,hl0⟩:=jb (f:=0) (o:=0) (tf:=au) (fi:=mf) hl hu rfl hO (by decide) rfl rfl rfl
   obtain ⟨a1,b1,ha1,hb1,hl1⟩:=jb (f:=1) (o:=1) (tf:=me) (fi:=jy) hl hu rfl cA (by decide) rfl rfl rfl
   have hdr:l.drop j = u :: l.drop (j + 1):=by
    obtain ⟨hx,rfl⟩:=List.getElem?_eq_some_iff.1 hu
    exact List.drop_eq_getElem_cons hx
   have hrem:nF (l.drop j) id k = ((decide (u.id = id) && (!decide (u.kind = 1) && (decide (k = 0) || decide (u.kind = k)))) || nF (l.drop (j + 1)) id k):=by rw [hdr]; rfl
   have next:(decide (u.id = id) && (!decide (u.kind = 1) && (decide (k = 0) || decide (u.kind = k)))) = false -> wv (aw T .add au (.int .i64 (j:Int)) (.int .i64 1)) fun v31=>R [v,.int .i64 id,.int .i64 k,v31] G:=by
    intro h
    rw [h,Bool.false_or] at hrem
    rw [wi,aa,i64_in (by omega) (by omega)]
    exact ih (j + 1) (by omega) (by omega) (hrem ▸ he)
   have hit:(decide (u.id = id) && (!decide (u.kind = 1) && (decide (k = 0) || decide (u.kind = k)))) = true -> Q (.bool true) G:=by
    intro h
    rw [h,Bool.true_or] at hrem
    rw [<- he,hrem] at hQ
    exact hQ
   refine hR _ _ _ _ _ ?_
   refine ae (fy hl) ?_
   rw [aH,aa,aE]
   refine ⟨fun _=>?_,fun h=>absurd (by omega) h⟩
   refine ae ha1 ?_
   refine ae hb1 ?_
   refine ae hl1 ?_
   rw [bC,aa,aE]
   refine ⟨fun hid=>?_,fun hid=>next (by rw [decide_eq_false hid,Bool.false_and])⟩
   refine ae ha0 ?_
   refine ae hb0 ?_
   refine ae hl0 ?_
   rw [dy,aa,fg]
   refine ⟨fun hk=>?_,fun hk=>next (by rw [decide_eq_true hk]; simp)⟩
   rw [bC,aa,aE]
   refine ⟨fun h0=>hit (by rw [decide_eq_true hid,decide_eq_false hk,decide_eq_true h0]; rfl),fun h0=>?_⟩
   refine ae ha0 ?_
   refine ae hb0 ?_
   refine ae hl0 ?_
   rw [bC,aa,aE]
   refine ⟨fun h1=>hit (by rw [decide_eq_true hid,decide_eq_false hk,decide_eq_true h1,Bool.or_true]; rfl),fun h1=>next (by rw [decide_eq_false h1,decide_eq_false h0]; simp)⟩
 exact loop _ 0 rfl (by omega) (by simp)
theorem dF.use {v:ag} {l:List aK} {id:Int} (hl:fV 36 G v (l.map aK.av)) (hok:∀ u ∈ l,u.ok) (hlen:l.length ≤ 9223372036854775807) (hQ:∀ G',Ch [] G [] G' -> Q (H8 (fW false id l)) G') :
  al P dF.n [v,.int .i64 id] G Q:=by
 refine dF.sound ?_
 unfold dF.S
 rw [DL]
 intro i1 f1
 have s1:=(Sp.nil G).row f1 aK.zero.av
 revert s1
 generalize ah.upd _ i1 (.own aK.zero.av) = G2
 intro s1 R hR
 have loop:∀ (n j:Nat),l.length - j = n -> j ≤ l.length -> fW false id (l.drop j) = fW false id l -> R [v,.int .i64 id,.ptr i1 [] 0,.int .i64 (j:Int)] G2:=by
  intro n
  induction n with
  | zero=>
   intro j hn hj he
   have:j = l.length:=by omega
   subst this
   rw [List.drop_length] at he
   refine hR _ _ _ _ _ ?_
   refine ae (fy (hl.ch' s1.ch)) ?_
   rw [aH,aa,aE]
   refine ⟨fun h=>absurd h (by omega),fun _=>?_⟩
   rw [ug,aa]
   refine kY (i:=0) s1 rfl aK.bD aK.bD fun G2 s2=>?_
   refine ae (dh (i:=0) s2 rfl aK.bD).2.2.2.2.2 ?_
   have:=hQ _ s2.ch
   rw [<- he] at this
   exact this
  | succ n ih=>
   intro j hn hj he
   obtain ⟨u,hu⟩:∃ u,l[j]? = some u:=⟨_,List.getElem?_eq_getElem (by omega)⟩
   have huo:=hok u (List.mem_of_getElem? hu)
   obtain ⟨a,ha,hla⟩:=oF (hl.ch' s1.ch) hu
   obtain ⟨a0,b0,ha0,hb0,hl0⟩:=jb (f:=0) (o:=0) (tf:=au) (fi:=mf) (hl.ch' s1.ch) hu rfl hO (by decide) rfl rfl rfl
   obtain ⟨a1,b1,ha1,hb1,hl1⟩:=jb (f:=1) (o:=1) (tf:=me) (fi:=jy) (hl.ch' s1.ch) hu rfl cA (by decide) rfl rfl rfl
   have hdr:l.drop j = u :: l.drop (j + 1):=by
    obtain ⟨hx,rfl⟩:=List.getElem?_eq_some_iff.1 hu
    exact List.drop_eq_getElem_cons hx
   rw [hdr,fW,List.find?_cons] at he
   have next:vY false id u = false -> wv (aw T .add au (.int .i64 (j:Int)) (.int .i64 1)) fun v31=>R [v,.int .i64 id,.ptr i1 [] 0,v31] G2:=by
    intro h
    rw [h] at he
    rw [wi,aa,i64_in (by omega) (by omega)]
    exact ih (j + 1) (by omega) (by omega) he
   unfold vY at next he
   refine hR _ _ _ _ _ ?_
   refine ae (fy (hl.ch' s1.ch)) ?_
   rw [aH,aa,aE]
   refine ⟨fun _=>?_,fun h=>absurd (by omega) h⟩
   refine ae ha0 ?_
   refine ae hb0 ?_
   refine ae hl0 ?_
   rw [bC,aa,aE]
   refine ⟨fun hk=>?_,fun hk=>next (by rw [cond_false,decide_eq_false hk,Bool.and_false])⟩
   refine ae ha1 ?_
   refine ae hb1 ?_
   refine ae hl1 ?_
   rw [bC,aa,aE]
   refine ⟨fun hid=>?_,fun hid=>next (by rw [decide_eq_false hid,Bool.false_and])⟩
   rw [cond_false,decide_eq_true hid,decide_eq_true hk] at he
   refine ae ha ?_
   refine ae hla ?_
   refine kY (i:=0) s1 rfl aK.bD huo fun G2 s2=>?_
   refine ae (dh (i:=0) s2 rfl huo).2.2.2.2.2 ?_
   have:=hQ _ s2.ch
   rw [<- he] at this
   exact this
 exact loop _ 0 rfl (by omega) (by simp)
theorem eM.use {v:ag} {l:List aK} (hl:fV 36 G v (l.map aK.av)) (hlen:l.length ≤ 1048576) (hQ:Q (.int .i64 ((jR l:Nat):Int)) G):al P eM.n [v] G Q:=by
 refine eM.sound ?_
 unfold eM.S
 intro R hR
 have loop:∀ (n j:Nat),l.length - j = n -> j ≤ l.length -> R [v,.int .i64 ((jR (l.take j):Nat):Int),.int .i64 (j:Int)] G:=by
  intro n
  induction n with
  | zero=>
   intro j hn hj
   have:j = l.length:=by omega
   subst this
   rw [List.take_length]
   refine hR _ _ _ _ ?_
   refine ae (fy hl) ?_
   rw [aH,aa,aE]
   exact ⟨fun h=>absurd h (by omega),fun _=>hQ⟩
  | succ n ih=>
   intro j hn hj
   obtain ⟨u,hu⟩:∃ u,l[j]? = some u:=⟨_,List.getElem?_eq_getElem (by omega)⟩
   obtain ⟨a0,b0,ha0,hb0,hl0⟩:=jb (f:=0) (o:=0) (tf:=au) (fi:=mf) hl hu rfl hO (by decide) rfl rfl rfl
   have hle:=zB (l.take j)
   rw [List.length_take] at hle
   have hst:jR (l.take (j + 1)) = jR (l.take j) + jR [u]:=by rw [List.take_add_one,hu,oU]; rfl
   refine hR _ _ _ _ ?_
   refine ae (fy hl) ?_
   rw [aH,aa,aE]
   refine ⟨fun _=>?_,fun h=>absurd (by omega) h⟩
   refine ae ha0 ?_
   refine ae hb0 ?_
   refine ae hl0 ?_
   rw [bC,aa,aE]
   refine ⟨fun hk=>?_,fun hk=>?_⟩
   ·have e1:jR [u] = 1:=by simp [jR,hk]
    rw [wi,i64_in (by omega) (by omega),aa,wi,i64_in (by omega) (by omega),aa]
    have:=ih (j + 1) (by omega) (by omega)
    rw [hst,e1] at this
    exact this
   ·have e1:jR [u] = 0:=by simp [jR,hk]
    rw [wi,i64_in (by omega) (by omega),aa]
    have:=ih (j + 1) (by omega) (by omega)
    rw [hst,e1] at this
    exact this
 exact loop _ 0 rfl (by omega)
theorem dE.use {v w:ag} {own other:List aK} (hl:fV 36 G v (own.map aK.av)) (ho:fV 36 G w (other.map aK.av)) (hlen:own.length ≤ 1048576) (hlen2:other.length ≤ 1048576) (hQ:Q (.int .i64 ((tB own other:Nat):Int)) G):al P dE.n [v,w] G Q:=by
 refine dE.sound ?_
 unfold dE.S
 intro R hR
 have loop:∀ (n j:Nat),own.length - j = n -> j ≤ own.length -> R [v,w,.int .i64 ((tB (own.take j) other:Nat):Int),.int .i64 (j:Int)] G:=by
  intro n
  induction n with
  | zero=>
   intro j hn hj
   have:j = own.length:=by omega
   subst this
   rw [List.take_length]
   refine hR _ _ _ _ _ ?_
   refine ae (fy hl) ?_
   rw [aH,aa,aE]
   exact ⟨fun h=>absurd h (by omega),fun _=>hQ⟩
  | succ n ih=>
   intro j hn hj
   obtain ⟨u,hu⟩:∃ u,own[j]? = some u:=⟨_,List.getElem?_eq_getElem (by omega)⟩
   obtain ⟨a0,b0,ha0,hb0,hl0⟩:=jb (f:=0) (o:=0) (tf:=au) (fi:=mf) hl hu rfl hO (by decide) rfl rfl rfl
   obtain ⟨a1,b1,ha1,hb1,hl1⟩:=jb (f:=1) (o:=1) (tf:=me) (fi:=jy) hl hu rfl cA (by decide) rfl rfl rfl
   have hle:tB (own.take j) other ≤ j:=by
    unfold tB
    refine Nat.le_trans (List.length_filter_le _ _) ?_
    rw [List.length_take]; omega
   have hst:tB (own.take (j + 1)) other = tB (own.take j) other + if BC other u = true then 1 else 0:=by
    unfold tB
    rw [List.take_add_one,hu,List.filter_append,List.length_append]
    congr 1
    simp only [Option.toList_some,List.filter_cons,List.filter_nil]
    split <;> rfl
   unfold BC at hst
   refine hR _ _ _ _ _ ?_
   refine ae (fy hl) ?_
   rw [aH,aa,aE]
   refine ⟨fun _=>?_,fun h=>absurd (by omega) h⟩
   intro J30
   have go:∀ x:Int,x = ((tB (own.take (j + 1)) other:Nat):Int) -> J30 (.int .i64 x) G:=by
    intro x hx
    simp -zeta only [J30]
    rw [wi,i64_in (by omega) (by omega),aa,hx]
    exact ih (j + 1) (by omega) (by omega)
   refine ae ha0 ?_
   refine ae hb0 ?_
   refine ae hl0 ?_
   rw [bC,aa,aE]
   refine ⟨fun hk=>?_,fun hk=>go _ (by rw [hst,decide_eq_false hk,Bool.false_and]; rfl)⟩
   rw [decide_eq_true hk,Bool.true_and] at hst
   refine ae ha1 ?_
   refine ae hb1 ?_
   refine ae hl1 ?_
   refine bQ.use ho hlen2 ?_
   rw [fN,aa,iE]
   refine ⟨fun h=>?_,fun h=>go _ (by rw [hst,h]; rfl)⟩
   rw [h,if_pos rfl] at hst
   rw [wi,i64_in (by omega) (by omega),aa]
   exact go _ (by rw [hst]; omega)
 exact loop _ 0 rfl (by omega)
theorem b6.use {v w:ag} {own other:List aK} {base fo fp:Int} (hl:iu 36 G v (own.map aK.av)) (ho:iu 36 G w (other.map aK.av)) (hlen:own.length ≤ 1048576) (hlen2:other.length ≤ 1048576) (hb:I64 base)
  (h0:0 ≤ rP base own other fo fp) (h1:rP base own other fo fp ≤ 1152921504606846976) (hQ:Q (.int .i64 (rP base own other fo fp)) G):al P b6.n [.int .i64 base,v,w,.int .i64 fo,.int .i64 fp] G Q:=by
 refine b6.sound ?_
 unfold b6.S
 unfold rP at h0 h1 hQ
 have hfl:=Mf other fp
 have hfo:=Mf own fo
 obtain ⟨S,hS⟩:∃ S,S = Bp (dP other fp):=⟨_,rfl⟩
 obtain ⟨D,hD⟩:∃ D,D = Fu (dP own fo):=⟨_,rfl⟩
 rw [<- hS,<- hD] at h0 h1 hQ
 intro R1 hR1
 have two:R1 [v,w,.int .i64 fo,.int .i64 fp,.int .i64 (IntKind.i64.wrap (base - gm S own)),.int .i64 (own.length:Nat)] G:=by
  refine hR1 _ _ _ _ _ _ _ ?_
  refine ae (fy hl.jf) ?_
  rw [aH,aa,aE]
  refine ⟨fun h=>absurd h (by omega),fun _=>?_⟩
  refine bB.use hl hlen fun x hx=>?_
  intro R hR
  have loop:∀ (n j:Nat),other.length - j = n -> j ≤ other.length -> R [w,.int .i64 (IntKind.i64.wrap (base - gm S own + gm D (other.take j))),x,.int .i64 (j:Int)] G:=by
   intro n
   induction n with
   | zero=>
    intro j hn hj
    have:j = other.length:=by omega
    subst this
    rw [List.take_length]
    refine hR _ _ _ _ _ ?_
    refine ae (fy ho.jf) ?_
    rw [aH,aa,aE]
    refine ⟨fun h=>absurd h (by omega),fun _=>?_⟩
    rw [i64_in (by omega) (by omega)]
    refine ae (v:=.int .i64 (base - gm S own + gm D other)) ?_ hQ
    show (some (ag.int .i64 (if base - gm S own + gm D other < 0 then 0 else base - gm S own + gm D other))) = _
    rw [if_neg (by omega)]
   | succ n ih=>
    intro j hn hj
    obtain ⟨u,hu⟩:∃ u,other[j]? = some u:=⟨_,List.getElem?_eq_getElem (by omega)⟩
    obtain ⟨a0,b0,ha0,hb0,hl0⟩:=jb (f:=0) (o:=0) (tf:=au) (fi:=mf) ho.jf hu rfl hO (by decide) rfl rfl rfl
    obtain ⟨a1,b1,ha1,hb1,hl1⟩:=jb (f:=1) (o:=1) (tf:=me) (fi:=jy) ho.jf hu rfl cA (by decide) rfl rfl rfl
    obtain ⟨a2,b2,ha2,hb2,hl2⟩:=jb (f:=2) (o:=2) (tf:=me) (fi:=jy) ho.jf hu rfl cA (by decide) rfl rfl rfl
    have hst:=oX (f:=D) hu
    have eD:D u = (decide (u.kind = 1) && nF (dP own fo) u.id 2):=by rw [hD]; rfl
    refine hR _ _ _ _ _ ?_
    refine ae (fy ho.jf) ?_
    rw [aH,aa,aE]
    refine ⟨fun _=>?_,fun h=>absurd (by omega) h⟩
    intro J77
    have go:∀ y:Int,y = IntKind.i64.wrap (base - gm S own + gm D (other.take (j + 1))) -> J77 (.int .i64 y) G:=by
     intro y hy
     simp -zeta only [J77]
     rw [wi,i64_in (by omega) (by omega),aa,hy]
     exact ih (j + 1) (by omega) (by omega)
    refine ae ha0 ?_
    refine ae hb0 ?_
    refine ae hl0 ?_
    rw [bC,aa,aE]
    refine ⟨fun hk=>?_,fun hk=>go _ (by rw [hst,eD,decide_eq_false hk]; simp)⟩
    rw [decide_eq_true hk,Bool.true_and] at eD
    refine ae ha1 ?_
    refine ae hb1 ?_
    refine ae hl1 ?_
    refine bQ.use hx.jf (by omega) ?_
    rw [iE]
    refine ⟨fun h=>?_,fun h=>go _ (by rw [hst,eD,h]; simp)⟩
    refine ae ha2 ?_
    refine ae hb2 ?_
    refine ae hl2 ?_
    rw [wi,aa,DO]
    exact go _ (by rw [hst,eD,h,if_pos rfl]; congr 1; omega)
  have:=loop other.length 0 (by omega) (by omega)
  have e0:gm D (other.take 0) = 0:=rfl
  rw [e0,Int.add_zero] at this
  exact this
 have loop:∀ (n j:Nat),own.length - j = n -> j ≤ own.length -> R1 [v,w,.int .i64 fo,.int .i64 fp,.int .i64 (IntKind.i64.wrap (base - gm S (own.take j))),.int .i64 (j:Int)] G:=by
  intro n
  induction n with
  | zero=>
   intro j hn hj
   have:j = own.length:=by omega
   subst this
   rw [List.take_length]
   exact two
  | succ n ih=>
   intro j hn hj
   obtain ⟨u,hu⟩:∃ u,own[j]? = some u:=⟨_,List.getElem?_eq_getElem (by omega)⟩
   obtain ⟨a0,b0,ha0,hb0,hl0⟩:=jb (f:=0) (o:=0) (tf:=au) (fi:=mf) hl.jf hu rfl hO (by decide) rfl rfl rfl
   obtain ⟨a1,b1,ha1,hb1,hl1⟩:=jb (f:=1) (o:=1) (tf:=me) (fi:=jy) hl.jf hu rfl cA (by decide) rfl rfl rfl
   obtain ⟨a2,b2,ha2,hb2,hl2⟩:=jb (f:=2) (o:=2) (tf:=me) (fi:=jy) hl.jf hu rfl cA (by decide) rfl rfl rfl
   have hst:=oX (f:=S) hu
   have eS:S u = (decide (u.kind = 1) && !nF (dP other fp) u.id 3):=by rw [hS]; rfl
   refine hR1 _ _ _ _ _ _ _ ?_
   refine ae (fy hl.jf) ?_
   rw [aH,aa,aE]
   refine ⟨fun _=>?_,fun h=>absurd (by omega) h⟩
   intro J40
   have go:∀ y:Int,y = IntKind.i64.wrap (base - gm S (own.take (j + 1))) -> J40 (.int .i64 y) G:=by
    intro y hy
    simp -zeta only [J40]
    rw [wi,i64_in (by omega) (by omega),aa,hy]
    exact ih (j + 1) (by omega) (by omega)
   refine ae ha0 ?_
   refine ae hb0 ?_
   refine ae hl0 ?_
   rw [bC,aa,aE]
   refine ⟨fun hk=>?_,fun hk=>go _ (by rw [hst,eS,decide_eq_false hk]; simp)⟩
   rw [decide_eq_true hk,Bool.true_and] at eS
   refine ae ha1 ?_
   refine ae hb1 ?_
   refine ae hl1 ?_
   refine bB.use ho hlen2 fun x hx=>?_
   refine ⟨⟨hl1,trivial⟩,?_⟩
   refine bQ.use hx.jf (by omega) ?_
   rw [fN,aa,<- eS,iE]
   refine ⟨fun h=>?_,fun h=>go _ (by rw [hst,h]; simp)⟩
   refine ae ha2 ?_
   refine ae hb2 ?_
   refine ae hl2 ?_
   rw [bS,aa,xZ]
   exact go _ (by rw [hst,h,if_pos rfl]; congr 1; omega)
 have:=loop own.length 0 (by omega) (by omega)
 have e0:gm S (own.take 0) = 0:=rfl
 rw [e0,Int.sub_zero,i64_in hb.1 hb.2] at this
 exact this
theorem cr.use {f:StF} {vo vp vh:ag} (h:kW G f vo vp vh) (I:iC f) (hQ:∀ G',Ch [] G [] G' -> Q (.int .i64 (vP f)) G'):al P cr.n [f.s.av vo vp vh] G Q:=by
 have ho:=h.ok
 have hl:=h.lv
 refine cr.sound ?_
 unfold cr.S
 intro i1 f1
 have s1:=(Sp.nil G).row f1 (f.s.av vo vp vh)
 refine ae (St.ld (ar.own (i:=0) s1 rfl) ho hl) ?_
 refine bV.use (h.mv s1.ch) fun G5 c5=>?_
 have s5:=s1.tmp c5
 refine jQ (c:=bR (nK f.s) (ng f.s)) s5 fR rfl rfl rfl fun i6 G8 s8=>?_
 have hg:=ar.own (i:=1) s8 rfl
 refine ae (St.FE hg ho hl) ?_
 refine ae (St.gG hg ho hl) ?_
 refine ae (St.iP hg ho hl) ?_
 refine ae (kU (ar.own (i:=0) s8 rfl)).1 ?_
 refine ae (kU (ar.own (i:=0) s8 rfl)).2.1 ?_
 obtain ⟨e1,e2⟩:=I.vO
 have hr:=I.D7
 rw [e1] at hr hQ
 refine b6.use (h.o.mv s8.ch) (h.p.mv s8.ch) h.lo h.lp ho.bo (by rw [e2]; exact hr.1) (by rw [e2]; exact hr.2) ?_
 rw [e2]
 exact hQ _ s8.ch
theorem bM.use {f:StF} {vo vp vh:ag} (h:kW G f vo vp vh) (I:iC f) (hQ:∀ G',Ch [] G [] G' -> Q (.int .i64 (vN f)) G'):al P bM.n [f.s.av vo vp vh] G Q:=by
 have ho:=h.ok
 have hl:=h.lv
 refine bM.sound ?_
 unfold bM.S
 intro i1 f1
 have s1:=(Sp.nil G).row f1 (f.s.av vo vp vh)
 refine ae (St.ld (ar.own (i:=0) s1 rfl) ho hl) ?_
 refine bV.use (h.mv s1.ch) fun G5 c5=>?_
 have s5:=s1.tmp c5
 refine jQ (c:=bR (nK f.s) (ng f.s)) s5 fR rfl rfl rfl fun i6 G8 s8=>?_
 have hg:=ar.own (i:=1) s8 rfl
 refine ae (St.FD hg ho hl) ?_
 refine ae (St.iP hg ho hl) ?_
 refine ae (St.gG hg ho hl) ?_
 refine ae (kU (ar.own (i:=0) s8 rfl)).2.1 ?_
 refine ae (kU (ar.own (i:=0) s8 rfl)).1 ?_
 obtain ⟨e1,e2⟩:=I.vM
 have hr:=I.D6
 rw [e1] at hr hQ
 refine b6.use (h.p.mv s8.ch) (h.o.mv s8.ch) h.lp h.lo ho.bp (by rw [e2]; exact hr.1) (by rw [e2]; exact hr.2) ?_
 rw [e2]
 exact hQ _ s8.ch
end
end Go.Esc.M
namespace Go.Esc.M
open Go Go.Esc
theorem Asc.LA:∀ {l:List ba} {m n:Int},m ≤ n -> Asc n l -> Asc m l
 | [],_,_,_,_=>trivial
 | p :: l,m,n,h,k=>⟨by have:=k.1; omega,k.2⟩
theorem wP {p:ba}:∀ {l:List ba},(∀ q ∈ l,¬ p.id < q.id) -> gX l p = l ++ [p]
 | [],_=>rfl
 | q :: l,h=>by
  have ih:=wP (p:=p) (l:=l) fun x hx=>h x (by simp [hx])
  unfold gX
  rw [if_neg (h q (by simp)),ih]
  rfl
theorem Af:∀ {l acc:List ba} {n:Int},Asc n l -> (∀ q ∈ acc,q.id ≤ n) -> l.foldl gX acc = acc ++ l
 | [],acc,n,_,_=>by simp
 | p :: l,acc,n,h,hq=>by
  obtain ⟨h1,_,_,h4⟩:=h
  rw [List.foldl_cons,wP fun q hm=>by have:=hq q hm; omega]
  rw [Af h4 fun q hm=>?_,List.append_assoc]
  ·rfl
  ·rcases List.mem_append.1 hm with hm | hm
   ·have:=hq q hm; omega
   ·rw [List.mem_singleton.1 hm]; exact Int.le_refl _
theorem CK {l:List ba} {n:Int} (h:Asc n l):jO l = l:=by
 have:=Af (acc:=[]) h (by simp)
 simpa [jO] using this
theorem CR {l:List aK} (hi:qy l) (hv:∀ u ∈ l,dC u = true) (m:Bool) (f:aK -> Bool) (hf:∀ u,f u = true -> u.kind = 1):Asc (-1) (hJ m f l):=by
 have key:∀ (n j:Nat),l.length - j = n -> j ≤ l.length -> Asc (((jR (l.take j):Nat):Int) - 1) (hJ m f (l.drop j)):=by
  intro n
  induction n with
  | zero=>
   intro j hn hj
   rw [List.drop_of_length_le (by omega)]
   trivial
  | succ n ih=>
   intro j hn hj
   obtain ⟨u,hu⟩:∃ u,l[j]? = some u:=⟨_,List.getElem?_eq_getElem (by omega)⟩
   have hdr:l.drop j = u :: l.drop (j + 1):=by
    obtain ⟨hx,rfl⟩:=List.getElem?_eq_some_iff.1 hu
    exact List.drop_eq_getElem_cons hx
   have ih:=ih (j + 1) (by omega) (by omega)
   have hst:jR (l.take (j + 1)) = jR (l.take j) + jR [u]:=by rw [List.take_add_one,hu,oU]; rfl
   rw [hdr]
   cases hfu:f u with
   | true=>
    have hk:=hf u hfu
    have e1:jR [u] = 1:=by simp [jR,hk]
    have hid:=hi j u hu hk
    have hval:=(kO (hv u (List.mem_of_getElem? hu))).2.2
    have e:hJ m f (u :: l.drop (j + 1)) = CS m u :: hJ m f (l.drop (j + 1)):=by simp [hJ,hfu]
    rw [e]
    refine ⟨by show _ < u.id; omega,by show 1 ≤ u.amount; omega,by show u.amount ≤ ij; unfold ij; omega,?_⟩
    show Asc u.id _
    rw [hst,e1] at ih
    rw [hid]
    have:(((jR (l.take j) + 1:Nat):Int) - 1) = ((jR (l.take j):Nat):Int):=by omega
    rw [this] at ih
    exact ih
   | false=>
    have e:hJ m f (u :: l.drop (j + 1)) = hJ m f (l.drop (j + 1)):=by simp [hJ,hfu]
    rw [e]
    exact Asc.LA (by omega) ih
 have:=key l.length 0 (by omega) (by omega)
 exact this
theorem Ao {o p:List aK} (vo:∀ u ∈ o,dC u = true) (vp:∀ u ∈ p,dC u = true) {fb:Int} (h0:0 ≤ fb) {n m:Nat} (hm:fb ≤ (m:Int)):((o.take n).filter (opens (p.take m))).length ≤ kp o p fb:=by
 have h1:((o.take n).filter (opens (p.take m))).length ≤ (o.filter (opens (p.take m))).length:=(List.Sublist.filter _ (List.take_sublist _ _)).length_le
 refine Nat.le_trans h1 ?_
 unfold kp qE
 rw [List.length_map,<- List.countP_eq_length_filter,<- List.countP_eq_length_filter]
 refine List.countP_mono_left fun u hu ho=>?_
 simp only [opens,stays,Bool.and_eq_true,decide_eq_true_eq,Bool.not_eq_true',decide_eq_false_iff_not] at ho ⊢
 refine ⟨ho.1.1,vo u hu,?_⟩
 refine Classical.byContradiction fun hne=>?_
 have hle:fb.toNat ≤ m:=by omega
 have:=oZ (id:=u.id) (l:=p) hle hne
 have h3:=vS u.id (p.take m)
 have h4:je u.id (p.take fb.toNat) ≠ 0:=hne
 rw [<- this] at h4
 rcases h3 with h3 | h3 | h3
 ·exact h4 h3
 ·exact ho.2 h3
 ·exact ho.1.2 h3
theorem zf {o p:List aK} (io:qy o) (ip:qy p) (vo:∀ u ∈ o,dC u = true) (vp:∀ u ∈ p,dC u = true) {x y:Int} (hx:0 ≤ x /\ x ≤ ij) (hy:0 ≤ y /\ y ≤ ij)
  (h1:(o.filter (opens p)).length ≤ 483) (h2:(p.filter (opens o)).length ≤ 483):j6 x y (nJ o p) = true:=by
 have a1:=CR io vo true (opens p) fun u hu=>by simp [opens,stays] at hu; exact hu.1.1
 have a2:=CR ip vp false (opens o) fun u hu=>by simp [opens,stays] at hu; exact hu.1.1
 unfold nJ
 rw [CK a1,CK a2]
 have o1:∀ q ∈ hJ true (opens p) o,q.ours = true:=by
  intro q hq
  obtain ⟨u,_,rfl⟩:=List.mem_map.1 hq
  rfl
 have o2:∀ q ∈ hJ false (opens o) p,q.ours = false:=by
  intro q hq
  obtain ⟨u,_,rfl⟩:=List.mem_map.1 hq
  rfl
 obtain ⟨lt,e1⟩:=Kc _ (-1) (-1) 0 (hJ false (opens o) p) a1 o1
 have e2:=Kd _ lt (-1) (0 + (hJ true (opens p) o).length) 0 a2 o2
 unfold j6
 rw [e1,e2,decide_eq_true hx.1,decide_eq_true hx.2,decide_eq_true hy.1,decide_eq_true hy.2]
 have l1:(hJ true (opens p) o).length = (o.filter (opens p)).length:=by unfold hJ; rw [List.length_map]
 have l2:(hJ false (opens o) p).length = (p.filter (opens o)).length:=by unfold hJ; rw [List.length_map]
 simp only [few,l1,l2,Bool.true_and,Bool.and_eq_true,decide_eq_true_eq]
 omega
theorem y7 {l:List aK} (h:qy l) (n:Nat):qy (l.take n):=by
 intro j u hj hk
 have hl:=(List.getElem?_eq_some_iff.1 hj).1
 rw [List.length_take] at hl
 rw [List.getElem?_take_of_lt (by omega)] at hj
 rw [List.take_take,Nat.min_eq_left (by omega)]
 exact h j u hj hk
theorem iC.Km {f:StF} (I:iC f) {a b:Int} (ha:f.s.atA ≤ a) (ha2:a ≤ f.o.length) (hb:f.s.heldB ≤ b) (hb2:b ≤ f.p.length) :
  (jC f a b).e = 0 /\ j6 (jC f a b).o (jC f a b).q (jC f a b).l = true /\ j6 (jC f a b).q (jC f a b).o (oN (jC f a b).l) = true /\ jC f a b = foldM f.s.bo f.s.bp (f.o.take a.toNat) (f.p.take b.toNat):=by
 have a0:=I.a0
 have b0:=I.b0
 obtain ⟨h1,h2⟩:=I.book.taken (n:=a.toNat) (m:=b.toNat) (by omega) (by omega) (by omega) (by omega)
 rw [Int.toNat_of_nonneg (by omega),Int.toNat_of_nonneg (by omega)] at h1 h2
 have e:jC f a b = foldM f.s.bo f.s.bp (f.o.take a.toNat) (f.p.take b.toNat):=h2
 have h1':(foldM f.s.bo f.s.bp (f.o.take a.toNat) (f.p.take b.toNat)).e = 0:=by rw [<- h2]; exact h1
 obtain ⟨v1,v2,x0,y0,hm⟩:=GO h1'
 obtain ⟨l1,l2⟩:=BS (bo:=f.s.bo) (bp:=f.s.bp) v1 v2 (by have:=I.cap; have:=I.capm; omega)
 have io:=y7 (sW I.go) a.toNat
 have ip:=y7 (sW I.gp) b.toNat
 have c1:((f.o.take a.toNat).filter (opens (f.p.take b.toNat))).length ≤ 483:=Nat.le_trans (Ao I.vo I.vp I.b0 (by omega)) I.no
 have c2:((f.p.take b.toNat).filter (opens (f.o.take a.toNat))).length ≤ 483:=Nat.le_trans (Ao I.vp I.vo I.a0 (by omega)) I.np
 refine ⟨h1,?_,?_,e⟩
 ·rw [e,hm]
  exact zf io ip v1 v2 ⟨x0,l1 y0⟩ ⟨y0,l2 x0⟩ c1 c2
 ·rw [e,hm]
  show j6 (mT _ _ _) (ml _ _ _) (oN (nJ _ _)) = true
  rw [D0]
  exact zf ip io v2 v1 ⟨y0,l2 x0⟩ ⟨x0,l1 y0⟩ c2 c1
theorem HE {ow ix x y:Int} {pt:List UInt8} {l:List ba} (h0:ow = 0 \/ ow = 1) (h1:0 ≤ ix) (h2:ix ≤ 281474976710655) (hs:j6 x y l = true):nC ow ix pt x y l = (ux ow ix pt x y l,0):=by
 unfold nC
 rw [if_neg (by unfold qc uM; omega),hs]
 rfl
end Go.Esc.M
namespace Go.Esc.M
open Go Go.Esc
section
variable {F0:List AId} {G0 G:ah} {ps:List LP} {Q:ag -> ah -> Prop}
theorem eN.use {f:StF} {c:CfM} {vo vp vh:ag} (hS:kW G f vo vp vh) (hQ:∀ G',Ch [] G [] G' -> Q (zN (uB f)) G'):al P eN.n [c.av,f.s.av vo vp vh] G Q:=by
 have ho:=hS.ok
 have hl:=hS.lv
 have hlo:=hS.lo
 refine eN.sound ?_
 unfold eN.S
 rw [DM]
 unfold uB at hQ
 intro i1 f1
 have s1:=(Sp.nil G).row f1 c.av
 intro i3 f3
 have s3:=s1.row f3 (f.s.av vo vp vh)
 intro i5 f5
 have s5:=s3.row f5 (RcM.zero.av .nilSlice)
 revert s5
 generalize ah.upd _ i5 _ = G6
 intro s5
 have hg:=ar.own (i:=1) s5 rfl
 refine ae (St.gG hg ho hl) ?_
 refine ae (fy (hS.o.jf.ch' s5.ch)) ?_
 refine ae (St.rf hg ho hl) ?_
 refine ae (v:=bR (f.o.length:Nat) f.s.atB) rfl ?_
 refine jQ (c:=bR (f.o.length:Nat) f.s.atB) s5 fR rfl rfl rfl fun i11 G13 s13=>?_
 refine ae (St.ld (ar.own (i:=2) s13 rfl) ho hl) ?_
 refine bP.use (hS.mv s13.ch) fun G16 c16=>?_
 have s16:=s13.tmp c16
 have s16:Sp [] G [ar i11 (bR (f.o.length:Nat) f.s.atB),ar i5 (RcM.zero.av .nilSlice),ar i3 (f.s.av vo vp vh),ar i1 c.av] G16:=s16
 rw [iE]
 refine ⟨fun hd=>?_,fun hd=>?_⟩
 ·rw [if_pos hd] at hQ
  exact nu (j:=1) s16 rfl RcM.bD bz.nil fun G' s'=>hQ G' s'.ch
 rw [if_neg (by rw [hd]; decide)] at hQ
 have hg:=ar.own (i:=2) s16 rfl
 intro J36
 have bad:(f.s.rem ≠ f.s.ack \/ ((f.o.length:Int) = f.s.sgnA /\ f.s.atB = f.s.sgnB)) -> J36 (.bool true) G16:=by
  intro hb
  rw [if_pos hb] at hQ
  simp -zeta only [J36,aX]
  exact nu (j:=1) s16 rfl RcM.bD bz.nil fun G' s'=>hQ G' s'.ch
 have kA:¬ (f.s.rem ≠ f.s.ack \/ ((f.o.length:Int) = f.s.sgnA /\ f.s.atB = f.s.sgnB)) -> J36 (.bool false) G16:=by
  intro hb
  rw [if_neg hb] at hQ
  simp -zeta only [J36,aM]
  refine ae (St.kq hg ho hl) ?_
  rw [de,aa,aE]
  refine ⟨fun h1=>?_,fun h1=>?_⟩
  ·rw [if_pos h1] at hQ
   exact nu (j:=1) s16 rfl RcM.bD bz.nil fun G' s'=>hQ G' s'.ch
  rw [if_neg h1] at hQ
  have hr:=ho.rem
  have hok:({ RcM.zero with kind:=2,index:=f.s.rem + 1,cntA:=(f.o.length:Nat),cntB:=f.s.atB }:RcM).ok :=
   ⟨gQ 2 (by decide) (by decide),aK.bD,gQ (f.s.rem + 1) (by have:=hr.1; omega) (by omega),gQ (f.o.length:Nat) (by omega) (by omega),ho.atB,rfl,rfl,rfl,cD⟩
  refine ae (St.kq hg ho hl) ?_
  rw [wi,i64_in (by have:=hr.1; omega) (by omega),aa]
  refine ae (cJ fR (ar.own (i:=0) s16 rfl) rfl) ?_
  refine ae Ha ?_
  refine Rc.st (i:=1) s16 rfl RcM.bD bz.nil hok bz.nil fun G41 s41=>?_
  refine ae (Rc.ld (ar.own (i:=1) s41 rfl) hok bz.nil) ?_
  exact hQ _ s41.ch
 refine ae (St.kq hg ho hl) ?_
 refine ae (St.mi hg ho hl) ?_
 rw [dy,aa,fg]
 refine ⟨fun h1=>bad (.inl h1),fun h1=>?_⟩
 refine ae (cJ fR (ar.own (i:=0) s16 rfl) rfl) ?_
 refine ae (St.BL hg ho hl) ?_
 rw [Ft (t:=bG),aa]
 by_cases h2:(f.o.length:Int) = f.s.sgnA /\ f.s.atB = f.s.sgnB
 ·rw [decide_eq_true h2]
  exact bad (.inr h2)
 ·rw [decide_eq_false h2]
  exact kA (by rintro (h | h); exact h h1; exact h2 h)
theorem eO.use {f:StF} {c:CfM} {n ca cb:Int} {vo vp vh:ag} (hS:kW G f vo vp vh) (hc:c.ok) (hQ:∀ G',Ch [] G [] G' -> Q (.tuple [.str (CW c f n ca cb).1,.bool (CW c f n ca cb).2]) G'):al P eO.n [c.av,f.s.av vo vp vh,.int .i64 n,bR ca cb] G Q:=by
 have ho:=hS.ok
 have hl:=hS.lv
 have hlo:=hS.lo
 have hlp:=hS.lp
 refine eO.sound ?_
 unfold eO.S
 unfold CW at hQ
 intro i1 f1
 have s1:=(Sp.nil G).row f1 c.av
 intro i3 f3
 have s3:=s1.row f3 (f.s.av vo vp vh)
 intro i5 f5
 have s5:=s3.row f5 (bR ca cb)
 revert s5
 generalize ah.upd _ i5 _ = G6
 intro s5
 refine ae (Cf.pT (ar.own (i:=2) s5 rfl) hc) ?_
 refine bJ.use hc.seed fun G9 c9=>?_
 have s9:=s5.tmp c9
 have hxl:=kc hc.seed n
 obtain ⟨X,hX⟩:∃ X,X = fH c.seed n:=⟨_,rfl⟩
 rw [<- hX] at hQ hxl ⊢
 refine ae (hi0 _) ?_
 refine ae (hi1 _) ?_
 refine mZ s9 hxl fun i12 G14 s14=>?_
 rw [dy,aa,fg]
 refine ⟨fun h1=>?_,fun h1=>?_⟩
 ·rw [if_pos h1] at hQ
  exact hQ _ s14.ch
 rw [if_neg (fun hh=>hh h1)] at hQ
 have hg:=ar.own (i:=2) s14 rfl
 refine ae (St.FE hg ho hl) ?_
 refine ae (St.FD hg ho hl) ?_
 refine ae (St.gG hg ho hl) ?_
 refine ae (St.iP hg ho hl) ?_
 refine ae (cJ fR (ar.own (i:=1) s14 rfl) rfl) ?_
 refine dI.use (hS.o.mv s14.ch) (hS.p.mv s14.ch) hS.oko hS.okp hS.lo hS.lp fun x G22 t22=>?_
 have hFok:=sa hS ca cb
 have hFlen:=wa f ca cb
 unfold jC at hQ hFok hFlen
 obtain ⟨F,hF⟩:∃ F,F = k8 f.s.bo f.s.bp f.o f.p ca cb:=⟨_,rfl⟩
 rw [<- hF] at hQ hFok hFlen t22 ⊢
 obtain ⟨F22,o22,c22⟩:=t22.out
 have s22:=s14.new o22 c22
 have lx:=(bj.own (i:=0) s22 rfl).leaf
 refine ae (tv0 _ _) ?_
 refine ae (tv1 _ _) ?_
 obtain ⟨w1,w2,w3⟩:=sS (o:=F.o) (q:=F.q) lx
 refine jQ s22 mG w1 (by rw [w2]; rfl) w3 fun i25 G27 s27=>?_
 rw [dy,aa,fg]
 refine ⟨fun h2=>?_,fun h2=>?_⟩
 ·rw [if_pos h2] at hQ
  exact hQ _ s27.ch
 rw [if_neg (fun hh=>hh h2)] at hQ
 refine ae (St.m8 (ar.own (i:=4) s27 rfl) ho hl) ?_
 refine ae (bE hxl (ar.own (i:=2) s27 rfl)) ?_
 refine ae (ig (i:=0) s27 rfl lx).2.2.2 ?_
 refine bW.use hxl fun G33 c33=>?_
 have s33:=s27.tmp c33
 refine ⟨⟨(ig (i:=0) s33 rfl lx).2.2.2,St.m8 (ar.own (i:=4) s33 rfl) ho hl,trivial⟩,?_⟩
 refine dG.use (kd _) (bj.own (i:=1) s33 rfl).is hFok (by omega) fun G35 c35=>?_
 have s35:=s33.tmp c35
 refine ae (tv0 _ _) ?_
 refine ae (tv1 _ _) ?_
 rw [bC,aa]
 exact hQ _ s35.ch
theorem dq.use {c:CfM} {n:Int} (hc:c.ok) (hQ:∀ G',Ch [] G [] G' -> Q (pP c n).av G'):al P dq.n [c.av,.int .i64 n] G Q:=by
 refine dq.sound ?_
 unfold dq.S
 rw [AZ]
 unfold pP at hQ
 intro i1 f1
 have s1:=(Sp.nil G).row f1 c.av
 intro i3 f3
 have s3:=s1.row f3 bA.zero.av
 revert s3
 generalize ah.upd _ i3 _ = G4
 intro s3 J36
 have bad:(n < 0 \/ 281474976710653 < n) -> J36 (.bool true) G4:=by
  intro hb
  rw [if_pos hb] at hQ
  simp -zeta only [J36,aX]
  refine ae (v:=bA.zero.av) rfl ?_
  refine k7 (i:=0) s3 rfl bA.bD bA.bD fun G10 s10=>?_
  refine ae (cJ dB (ar.own (i:=0) s10 rfl) (bA.fits bA.bD)) ?_
  exact hQ _ s10.ch
 have kA:¬ (n < 0 \/ 281474976710653 < n) -> J36 (.bool false) G4:=by
  intro hb
  rw [if_neg hb] at hQ
  simp -zeta only [J36,aM]
  have hx:=kc hc.seed n
  have hy:=kc hc.seed (n + 2)
  refine ae (Cf.pT (ar.own (i:=1) s3 rfl) hc) ?_
  refine bJ.use hc.seed fun G14 c14=>?_
  have s14:=s3.tmp c14
  refine ae (hi0 _) ?_
  refine ae (hi1 _) ?_
  refine mZ s14 hx fun i17 G19 s19=>?_
  refine ae (Cf.pT (ar.own (i:=2) s19 rfl) hc) ?_
  rw [wi,i64_in (by omega) (by omega),aa]
  refine bJ.use hc.seed fun G23 c23=>?_
  have s23:=s19.tmp c23
  refine ae (hi0 _) ?_
  refine ae (hi1 _) ?_
  refine mZ s23 hy fun i26 G28 s28=>?_
  refine ae (bE hx (ar.own (i:=1) s28 rfl)) ?_
  refine ae (bE hy (ar.own (i:=0) s28 rfl)) ?_
  refine bW.use hy fun G32 c32=>?_
  have s32:=s28.tmp c32
  refine ⟨⟨bE hx (ar.own (i:=1) s32 rfl),trivial⟩,?_⟩
  have hz:(sha (fH c.seed (n + 2)).1).length = 32:=kd _
  have hok:({ bA.zero with kind:=5,index:=n,secret:=(fH c.seed n).1,hash:=sha (fH c.seed (n + 2)).1 }:bA).ok:=⟨gQ 5 (by decide) (by decide),cD,cD,gQ n (by omega) (by omega),cD,hz,hx,by simp [bA.zero]⟩
  refine ae (n5 (r:={ bA.zero with kind:=5,index:=n,secret:=(fH c.seed n).1,hash:=sha (fH c.seed (n + 2)).1 }) (fun p hp=>?_) rfl) ?_
  ·simp only [List.mem_cons,List.not_mem_nil,or_false] at hp
   rcases hp with rfl | rfl | rfl | rfl
   ·rfl
   ·rfl
   ·exact mK hx
   ·exact mK hz
  refine k7 (i:=2) s32 rfl bA.bD hok fun G34 s34=>?_
  refine ae (cJ dB (ar.own (i:=2) s34 rfl) (bA.fits hok)) ?_
  exact hQ _ s34.ch
 rw [aH,aa,aE]
 refine ⟨fun h1=>bad (.inl h1),fun h1=>?_⟩
 rw [de,aa]
 by_cases h2:281474976710653 < n
 ·rw [decide_eq_true h2]
  exact bad (.inr h2)
 ·rw [decide_eq_false h2]
  exact kA (by omega)
theorem dS.use {f:StF} {vo vp vh:ag} {a:Int} {h:List UInt8} (hS:kW G f vo vp vh) (I:iC f) (hh:h.length = 32) (hQ:∀ G',Ch [] G [] G' -> Q (zN (q9 f a h)) G'):al P dS.n [f.s.av vo vp vh,.int .i64 a,.agg (h.map u8v)] G Q:=by
 have ho:=hS.ok
 have hl:=hS.lv
 have hlo:=hS.lo
 refine dS.sound ?_
 unfold dS.S
 rw [DM]
 unfold q9 at hQ
 intro i1 f1
 have s1:=(Sp.nil G).row f1 (f.s.av vo vp vh)
 intro i3 f3
 have s3:=s1.row f3 (.agg (h.map u8v))
 intro i5 f5
 have s5:=s3.row f5 (RcM.zero.av .nilSlice)
 revert s5
 generalize ah.upd _ i5 _ = G6
 intro s5
 refine ae (St.ld (ar.own (i:=2) s5 rfl) ho hl) ?_
 refine bP.use (hS.mv s5.ch) fun G9 c9=>?_
 have s9:=s5.tmp c9
 rw [iE]
 refine ⟨fun hd=>?_,fun hd=>?_⟩
 ·rw [if_pos hd] at hQ
  exact nu (j:=0) s9 rfl RcM.bD bz.nil fun G' s'=>hQ G' s'.ch
 rw [if_neg (by rw [hd]; decide)] at hQ
 have s9:Sp [] G [ar i5 (RcM.zero.av .nilSlice),ar i3 (.agg (h.map u8v)),ar i1 (f.s.av vo vp vh)] G9:=s9
 intro J47
 have bad:(a < 1 \/ 1152921504606846976 < a) -> J47 (.bool true) G9:=by
  intro hb
  rw [if_pos hb] at hQ
  simp -zeta only [J47,aX]
  exact nu (j:=0) s9 rfl RcM.bD bz.nil fun G' s'=>hQ G' s'.ch
 have kA:¬ (a < 1 \/ 1152921504606846976 < a) -> J47 (.bool false) G9:=by
  intro hb
  rw [if_neg hb] at hQ
  simp -zeta only [J47,aM]
  refine ae (St.ld (ar.own (i:=2) s9 rfl) ho hl) ?_
  refine cS.use (hS.mv s9.ch) fun G22 c22=>?_
  have s22:=s9.tmp c22
  rw [iE]
  refine ⟨fun hf=>?_,fun hf=>?_⟩
  ·rw [if_pos hf] at hQ
   exact nu (j:=0) s22 rfl RcM.bD bz.nil fun G' s'=>hQ G' s'.ch
  rw [if_neg (by rw [hf]; decide)] at hQ
  have hg:=ar.own (i:=2) s22 rfl
  refine ae (St.gG hg ho hl) ?_
  refine ae (St.iP hg ho hl) ?_
  refine ae (St.ld hg ho hl) ?_
  refine bV.use (hS.mv s22.ch) fun G30 c30=>?_
  have s30:=s22.tmp c30
  have hg:=ar.own (i:=2) s30 rfl
  refine ⟨⟨St.iP hg ho hl,St.gG hg ho hl,trivial⟩,?_⟩
  refine ae (v:=.int .i64 (ng f.s)) rfl ?_
  refine bB.use (hS.p.mv s30.ch) hS.lp fun w hw=>?_
  refine ⟨⟨St.gG hg ho hl,trivial⟩,?_⟩
  have hfl:=Mf f.p (ng f.s)
  refine dE.use (hS.o.jf.ch' s30.ch) hw.jf hS.lo (by have:=hS.lp; omega) ?_
  rw [yQ I.vo I.vp]
  rw [gq,aa,aE]
  refine ⟨fun h4=>?_,fun h4=>?_⟩
  ·rw [if_pos (by omega)] at hQ
   exact nu (j:=0) s30 rfl RcM.bD bz.nil fun G' s'=>hQ G' s'.ch
  rw [if_neg (by omega)] at hQ
  refine ae (St.ld hg ho hl) ?_
  refine cr.use (hS.mv s30.ch) I fun G42 c42=>?_
  have s42:=s30.tmp c42
  rw [de,aa,aE]
  refine ⟨fun h5=>?_,fun h5=>?_⟩
  ·rw [if_pos h5] at hQ
   exact nu (j:=0) s42 rfl RcM.bD bz.nil fun G' s'=>hQ G' s'.ch
  rw [if_neg h5] at hQ
  have hal:=zB f.o
  have hu:(⟨1,((jR f.o:Nat):Int),a,h,[]⟩:aK).ok:=⟨gQ 1 (by decide) (by decide),gQ ((jR f.o:Nat):Int) (by omega) (by omega),gQ a (by omega) (by omega),hh,by simp⟩
  refine ae (St.gG (ar.own (i:=2) s42 rfl) ho hl) ?_
  refine ae (bE hh (ar.own (i:=1) s42 rfl)) ?_
  refine eM.use (hS.o.jf.ch' s42.ch) hS.lo ?_
  refine ⟨⟨bE hh (ar.own (i:=1) s42 rfl),trivial⟩,?_⟩
  refine ae (Hg hh) ?_
  refine ae (uf hu) ?_
  refine Rc.st (i:=0) s42 rfl RcM.bD bz.nil (lG hu) bz.nil fun G54 s54=>?_
  refine ae (Rc.ld (ar.own (i:=0) s54 rfl) (lG hu) bz.nil) ?_
  exact hQ _ s54.ch
 rw [aH,aa,aE]
 refine ⟨fun h1=>bad (.inl h1),fun h1=>?_⟩
 rw [de,aa]
 by_cases h2:1152921504606846976 < a
 ·rw [decide_eq_true h2]; exact bad (.inr h2)
 ·rw [decide_eq_false h2]; exact kA (by omega)
theorem b7.use {f:StF} {vo vp vh:ag} {id:Int} (hS:kW G f vo vp vh) (hQ:∀ G',Ch [] G [] G' -> Q (.tuple [((fW false id (dP f.p (ng f.s))).getD aK.zero).av,.bool ((fW false id (dP f.p (ng f.s))).isSome && !nF f.o id 0)]) G') :
  al P b7.n [f.s.av vo vp vh,.int .i64 id] G Q:=by
 have ho:=hS.ok
 have hl:=hS.lv
 have hlo:=hS.lo
 have hlp:=hS.lp
 refine b7.sound ?_
 unfold b7.S
 rw [DL]
 intro i1 f1
 have s1:=(Sp.nil G).row f1 (f.s.av vo vp vh)
 intro i3 f3
 have s3:=s1.row f3 aK.zero.av
 revert s3
 generalize ah.upd _ i3 _ = G4
 intro s3
 rw [<- DL]
 have hg:=ar.own (i:=1) s3 rfl
 refine ae (St.iP hg ho hl) ?_
 refine ae (St.ld hg ho hl) ?_
 refine bV.use (hS.mv s3.ch) fun G8 c8=>?_
 have s8:=s3.tmp c8
 have hg:=ar.own (i:=1) s8 rfl
 refine ⟨⟨St.iP hg ho hl,trivial⟩,?_⟩
 refine ae (v:=.int .i64 (ng f.s)) rfl ?_
 refine bB.use (hS.p.mv s8.ch) hS.lp fun w hw=>?_
 have hfl:=Mf f.p (ng f.s)
 have hfo:=o8 (n:=ng f.s) hS.okp
 refine dF.use hw.jf hfo (by omega) fun G13 c13=>?_
 have s13:=s8.tmp c13
 have hA:=o7 (rm:=false) (id:=id) hfo
 obtain ⟨A,eA⟩:∃ A,A = fW false id (dP f.p (ng f.s)):=⟨_,rfl⟩
 rw [<- eA] at hA hQ ⊢
 refine ae (JF _) ?_
 refine ae (JE _) ?_
 refine C3 s13 hA fun i16 G18 s18=>?_
 refine ae (dh (i:=0) s18 rfl hA).2.2.2.2.2 ?_
 rw [iE]
 refine ⟨fun hs=>?_,fun hs=>?_⟩
 ·rw [hs,Bool.true_and] at hQ
  refine ae (St.gG (ar.own (i:=2) s18 rfl) ho hl) ?_
  refine bQ.use (hS.o.jf.ch' s18.ch) hS.lo ?_
  refine ⟨⟨(dh (i:=0) s18 rfl hA).2.2.2.2.2,trivial⟩,?_⟩
  rw [fN,aa]
  refine kY (i:=1) s18 rfl aK.bD hA fun G24 s24=>?_
  refine ae (dh (i:=1) s24 rfl hA).2.2.2.2.2 ?_
  exact hQ _ s24.ch
 ·rw [hs,Bool.false_and] at hQ
  refine kY (i:=1) s18 rfl aK.bD hA fun G24 s24=>?_
  refine ae (dh (i:=1) s24 rfl hA).2.2.2.2.2 ?_
  exact hQ _ s24.ch
theorem dp.use {f:StF} {vo vp vh:ag} {id:Int} {h:List UInt8} (hS:kW G f vo vp vh) (I:iC f) (hi:I64 id) (hh:h.length = 32) (hQ:∀ G',Ch [] G [] G' -> Q (zN (lK f ⟨2,id,0,h,[]⟩)) G'):al P dp.n [f.s.av vo vp vh,.int .i64 id,.agg (h.map u8v)] G Q:=by
 have ho:=hS.ok
 have hl:=hS.lv
 refine dp.sound ?_
 unfold dp.S
 rw [DM]
 unfold lK at hQ
 have hu:(⟨2,id,0,h,[]⟩:aK).ok:=⟨gQ 2 (by decide) (by decide),hi,cD,hh,by simp⟩
 obtain ⟨may,hmay⟩:∃ b,b = tZ f ⟨2,id,0,h,[]⟩:=⟨_,rfl⟩
 rw [<- hmay] at hQ
 unfold tZ at hmay
 rw [decide_eq_true (show (2:Int) = 2 from rfl),Bool.not_true,Bool.false_or,decide_eq_true (show ([]:List UInt8).length ≤ 64 by simp),Bool.and_true,yE I.vo] at hmay
 simp only at hmay
 intro i1 f1
 have s1:=(Sp.nil G).row f1 (f.s.av vo vp vh)
 intro i3 f3
 have s3:=s1.row f3 (.agg (h.map u8v))
 intro i5 f5
 have s5:=s3.row f5 (RcM.zero.av .nilSlice)
 revert s5
 generalize ah.upd _ i5 _ = G6
 intro s5
 refine ae (St.ld (ar.own (i:=2) s5 rfl) ho hl) ?_
 refine bP.use (hS.mv s5.ch) fun G9 c9=>?_
 have s9:=s5.tmp c9
 rw [iE]
 refine ⟨fun hd=>?_,fun hd=>?_⟩
 ·rw [if_pos hd] at hQ
  exact nu (j:=0) s9 rfl RcM.bD bz.nil fun G' s'=>hQ G' s'.ch
 rw [if_neg (by rw [hd]; decide)] at hQ
 refine ae (St.ld (ar.own (i:=2) s9 rfl) ho hl) ?_
 refine b7.use (hS.mv s9.ch) fun G15 c15=>?_
 have s15:=s9.tmp c15
 have hA:=o7 (rm:=false) (id:=id) (o8 (n:=ng f.s) hS.okp)
 obtain ⟨A,eA⟩:∃ A,A = fW false id (dP f.p (ng f.s)):=⟨_,rfl⟩
 rw [<- eA] at hA hmay ⊢
 refine ae (tv0 _ _) ?_
 refine ae (tv1 _ _) ?_
 refine C3 s15 hA fun i18 G20 s20=>?_
 have s20:Sp [] G [ar i18 (A.getD aK.zero).av,ar i5 (RcM.zero.av .nilSlice),ar i3 (.agg (h.map u8v)),ar i1 (f.s.av vo vp vh)] G20:=s20
 intro J44
 have bad:∀ G2,Sp [] G [ar i18 (A.getD aK.zero).av,ar i5 (RcM.zero.av .nilSlice),ar i3 (.agg (h.map u8v)),ar i1 (f.s.av vo vp vh)] G2 -> may = false -> J44 (.bool true) G2:=by
  intro G2 s2 hm
  rw [if_pos hm] at hQ
  simp -zeta only [J44,aX]
  exact nu (j:=1) s2 rfl RcM.bD bz.nil fun G' s'=>hQ G' s'.ch
 have kA:∀ G2,Sp [] G [ar i18 (A.getD aK.zero).av,ar i5 (RcM.zero.av .nilSlice),ar i3 (.agg (h.map u8v)),ar i1 (f.s.av vo vp vh)] G2 -> may = true -> J44 (.bool false) G2:=by
  intro G2 s2 hm
  rw [if_neg (by rw [hm]; decide)] at hQ
  simp -zeta only [J44,aM]
  refine ae (St.ld (ar.own (i:=3) s2 rfl) ho hl) ?_
  refine cS.use (hS.mv s2.ch) fun G35 c35=>?_
  have s35:=s2.tmp c35
  rw [iE]
  refine ⟨fun hf=>?_,fun hf=>?_⟩
  ·rw [if_pos hf] at hQ
   exact nu (j:=1) s35 rfl RcM.bD bz.nil fun G' s'=>hQ G' s'.ch
  rw [if_neg (by rw [hf]; decide)] at hQ
  refine ae (bE hh (ar.own (i:=2) s35 rfl)) ?_
  refine ae (Hf hh) ?_
  refine ae (uf hu) ?_
  refine Rc.st (i:=1) s35 rfl RcM.bD bz.nil (lG hu) bz.nil fun G42 s42=>?_
  refine ae (Rc.ld (ar.own (i:=1) s42 rfl) (lG hu) bz.nil) ?_
  exact hQ _ s42.ch
 rw [fN,aa]
 rw [<- Bool.and_assoc] at hmay
 cases hm:(A.isSome && !nF f.o id 0) with
 | false=>
  rw [hm,Bool.false_and] at hmay
  rw [Bool.not_false,aX]
  exact bad _ s20 hmay
 | true=>
  rw [hm,Bool.true_and] at hmay
  rw [Bool.not_true,aM]
  have hsl:fj T aj (.ptr i3 [] 0) none none none = some (.slice i3 [] 0 0 32 32):=by simp [fj,cd,fE,dz,jh,j7]
  refine ae hsl ?_
  have hxs:fV 1 _ (.slice i3 [] 0 0 32 32) (h.map u8v):=qV (ar.own (i:=2) s20 rfl) hh
  refine ae (jZ (si:=fS) (ie:=fY) (di:=iO) fu rfl dz rfl fZ rfl hxs) ?_
  refine ae (dh (i:=0) s20 rfl hA).2.2.2.1 ?_
  refine cK.use (by omega) fun G26 c26=>?_
  have s26:=s20.tmp c26
  refine ⟨⟨(dh (i:=0) s26 rfl hA).2.2.2.1,trivial⟩,?_⟩
  rw [uW (kd _) hA.hash,aa]
  by_cases he:sha h = (A.getD aK.zero).hash
  ·rw [decide_eq_true he] at hmay ⊢
   exact kA _ s26 hmay
  ·rw [decide_eq_false he] at hmay ⊢
   exact bad _ s26 hmay
theorem dr.use {f:StF} {vo vp vh:ag} {id:Int} {n:List UInt8} (hS:kW G f vo vp vh) (I:iC f) (hi:I64 id) (hn:n.length ≤ 9223372036854775807) (hQ:∀ G',Ch [] G [] G' -> Q (zN (lK f ⟨3,id,0,h0,n⟩)) G'):al P dr.n [f.s.av vo vp vh,.int .i64 id,.str n] G Q:=by
 have ho:=hS.ok
 have hl:=hS.lv
 refine dr.sound ?_
 unfold dr.S
 rw [DM]
 unfold lK at hQ
 have hu:(⟨3,id,0,h0,n⟩:aK).ok:=⟨gQ 3 (by decide) (by decide),hi,cD,rfl,hn⟩
 obtain ⟨may,hmay⟩:∃ b,b = tZ f ⟨3,id,0,h0,n⟩:=⟨_,rfl⟩
 rw [<- hmay] at hQ
 unfold tZ at hmay
 rw [decide_eq_false (show ¬ (3:Int) = 2 by decide),Bool.not_false,Bool.true_or,Bool.true_and,yE I.vo] at hmay
 simp only at hmay
 intro i1 f1
 have s1:=(Sp.nil G).row f1 (f.s.av vo vp vh)
 intro i3 f3
 have s3:=s1.row f3 (RcM.zero.av .nilSlice)
 revert s3
 generalize ah.upd _ i3 _ = G4
 intro s3
 refine ae (St.ld (ar.own (i:=1) s3 rfl) ho hl) ?_
 refine bP.use (hS.mv s3.ch) fun G7 c7=>?_
 have s7:=s3.tmp c7
 rw [iE]
 refine ⟨fun hd=>?_,fun hd=>?_⟩
 ·rw [if_pos hd] at hQ
  exact nu (j:=0) s7 rfl RcM.bD bz.nil fun G' s'=>hQ G' s'.ch
 rw [if_neg (by rw [hd]; decide)] at hQ
 refine ae (St.ld (ar.own (i:=1) s7 rfl) ho hl) ?_
 refine b7.use (hS.mv s7.ch) fun G13 c13=>?_
 have s13:=s7.tmp c13
 have hA:=o7 (rm:=false) (id:=id) (o8 (n:=ng f.s) hS.okp)
 obtain ⟨A,eA⟩:∃ A,A = fW false id (dP f.p (ng f.s)):=⟨_,rfl⟩
 rw [<- eA] at hA hmay ⊢
 refine ae (tv0 _ _) ?_
 refine ae (tv1 _ _) ?_
 refine C3 s13 hA fun i16 G18 s18=>?_
 have s18:Sp [] G [ar i16 (A.getD aK.zero).av,ar i3 (RcM.zero.av .nilSlice),ar i1 (f.s.av vo vp vh)] G18:=s18
 intro J37
 have bad:may = false -> J37 (.bool true) G18:=by
  intro hm
  rw [if_pos hm] at hQ
  simp -zeta only [J37,aX]
  exact nu (j:=1) s18 rfl RcM.bD bz.nil fun G' s'=>hQ G' s'.ch
 have kA:may = true -> J37 (.bool false) G18:=by
  intro hm
  rw [if_neg (by rw [hm]; decide)] at hQ
  simp -zeta only [J37,aM]
  refine ae (St.ld (ar.own (i:=2) s18 rfl) ho hl) ?_
  refine cS.use (hS.mv s18.ch) fun G29 c29=>?_
  have s29:=s18.tmp c29
  rw [iE]
  refine ⟨fun hf=>?_,fun hf=>?_⟩
  ·rw [if_pos hf] at hQ
   exact nu (j:=1) s29 rfl RcM.bD bz.nil fun G' s'=>hQ G' s'.ch
  rw [if_neg (by rw [hf]; decide)] at hQ
  refine ae (EM _ _) ?_
  refine ae (uf hu) ?_
  refine Rc.st (i:=1) s29 rfl RcM.bD bz.nil (lG hu) bz.nil fun G35 s35=>?_
  refine ae (Rc.ld (ar.own (i:=1) s35 rfl) (lG hu) bz.nil) ?_
  exact hQ _ s35.ch
 rw [fN,aa]
 rw [<- Bool.and_assoc] at hmay
 cases hm:(A.isSome && !nF f.o id 0) with
 | false=>
  rw [hm,Bool.false_and] at hmay
  rw [Bool.not_false,aX]
  exact bad hmay
 | true=>
  rw [hm,Bool.true_and] at hmay
  rw [Bool.not_true,aM]
  refine ae (v:=.int .i64 (n.length:Nat)) rfl ?_
  rw [de,aa]
  by_cases he:n.length ≤ 64
  ·rw [decide_eq_true he] at hmay
   rw [decide_eq_false (by omega)]
   exact kA hmay
  ·rw [decide_eq_false he] at hmay
   rw [decide_eq_true (by omega)]
   exact bad hmay
theorem fw.use {f:StF} {vo vp vh:ag} (hS:kW G f vo vp vh) (hQ:∀ wo wp wh G',Sp [] G [bj 34 wh (f.h.map cB.av),bj 36 wp ((dP f.p f.s.atB).map aK.av),bj 36 wo (f.o.map aK.av)] G' -> Q (f.s.av wo wp wh) G'):al P fw.n [f.s.av vo vp vh] G Q:=by
 have ho:=hS.ok
 have hl:=hS.lv
 have hlp:=hS.lp
 have hlo:=hS.lo
 have hlh:=hS.lh
 refine fw.sound ?_
 unfold fw.S
 rw [F6]
 intro i1 f1
 have s1:=(Sp.nil G).row f1 (f.s.av vo vp vh)
 intro i3 f3
 have s3:=s1.row f3 (StM.zero.av .nilSlice .nilSlice .nilSlice)
 revert s3
 generalize ah.upd _ i3 _ = G4
 intro s3
 have grow:∀ {ps:List LP} {G1:ah} {x:ag} {l:List aK} {K:ag -> ah -> Prop},Sp [] G ps G1 -> fV 36 G1 x (l.map aK.av) -> (∀ u ∈ l,u.ok) -> l.length ≤ 1048576 -> (∀ w G2,Sp [] G (bj 36 w (l.map aK.av) :: ps) G2 -> K w G2) -> cc T G1 ak ak .nilSlice x K:=by
  intro ps G1 x l K s hx hok hlen hK
  refine wZ (T:=T) (ts:=ak) (e:=aI) (si:=fl) (ie:=dA) (tx:=ak) (xi:=fl) (i:=0) (vs:=[]) (xs:=l.map aK.av) cn rfl fC rfl (by decide) cn (.inr ⟨_,rfl⟩) (s.nd 36) rfl hx.elems (oj hok).1 (oj hok).2 (by rw [show dA.bytes = 72 from rfl,List.length_map]; simp; omega) fun w G5 s5=>?_
  exact hK w G5 s5
 refine ae (St.gG (ar.own (i:=1) s3 rfl) ho hl) ?_
 refine grow s3 (hS.o.jf.ch' s3.ch) hS.oko hS.lo fun wo G7 s7=>?_
 have lo:bz wo:=(bj.own (i:=0) s7 rfl).leaf
 refine St.sE (i:=2) s7 rfl ho hl lo fun G8 s8=>?_
 have l8:bz wo /\ bz vp /\ bz vh:=⟨lo,hl.2.1,hl.2.2⟩
 refine ae (St.iP (ar.own (i:=2) s8 rfl) ho l8) ?_
 refine ae (St.rf (ar.own (i:=2) s8 rfl) ho l8) ?_
 refine bB.use (hS.p.mv s8.ch) hS.lp fun w hw=>?_
 have hfl:=Mf f.p f.s.atB
 refine grow s8 hw.jf (o8 hS.okp) (by omega) fun wp G14 s14=>?_
 have lp:bz wp:=(bj.own (i:=0) s14 rfl).leaf
 refine St.uz (i:=3) s14 rfl ho l8 lp fun G15 s15=>?_
 have l15:bz wo /\ bz wp /\ bz vh:=⟨lo,lp,hl.2.2⟩
 refine ae (St.r6 (ar.own (i:=3) s15 rfl) ho l15) ?_
 refine wZ (T:=T) (ts:=bu) (e:=ff) (si:=jN) (ie:=kI) (tx:=bu) (xi:=jN) (i:=0) (vs:=[]) (xs:=f.h.map cB.av) iL rfl ky rfl (by decide) iL (.inr ⟨_,rfl⟩) (s15.nd 34) rfl (hS.h.jf.ch' s15.ch).elems (z7 hS.okh) (tV f.h) (by rw [show kI.bytes = 48 from rfl,List.length_map]; simp; omega) fun wh G18 s18=>?_
 have lh:bz wh:=(bj.own (i:=0) s18 rfl).leaf
 refine St.yv (i:=4) s18 rfl ho l15 lh fun G19 s19=>?_
 refine ae (St.ld (ar.own (i:=4) s19 rfl) ho ⟨lo,lp,lh⟩) ?_
 refine St.st (i:=3) s19 rfl StM.bD lv0 ho ⟨lo,lp,lh⟩ fun G21 s21=>?_
 refine ae (St.ld (ar.own (i:=3) s21 rfl) ho ⟨lo,lp,lh⟩) ?_
 exact hQ wo wp wh G21 ((s21.erase 3).erase 3)
end
end Go.Esc.M
namespace Go.Esc.M
open Go Go.Esc
def nB (f:StF) (n ca cb:Int):List UInt8 × Bool :=
 if (jC f ca cb).e ≠ 0 then ([],false)
 else ((nC (IntKind.i64.wrap (1 - f.s.side)) n (if n ≠ f.s.ack then f.s.ptsB else f.s.ptsA) (jC f ca cb).q (jC f ca cb).o (oN (jC f ca cb).l)).1,
  decide ((nC (IntKind.i64.wrap (1 - f.s.side)) n (if n ≠ f.s.ack then f.s.ptsB else f.s.ptsA) (jC f ca cb).q (jC f ca cb).o (oN (jC f ca cb).l)).2 = 0))
theorem CB {f:StF} {n ca cb:Int} (ho:f.s.ok) (hf:∀ p ∈ (jC f ca cb).l,p.ok):(nB f n ca cb).1.length ≤ 1000000:=by
 unfold nB
 split
 ·simp
 ·refine vG ?_ (yo hf)
  split
  ·exact ho.ptsB
  ·exact ho.ptsA
theorem iC.Ky {f:StF} (I:iC f):(nB f f.s.rem f.s.sgnA f.s.sgnB).2 = true:=by
 obtain ⟨h1,_,h3,_⟩:=I.Km (a:=f.s.sgnA) (b:=f.s.sgnB) (by have:=I.a1; have:=I.a2; omega) I.a3 I.b1 (by have:=I.b2; have:=I.b3; omega)
 unfold nB
 rw [if_neg (by rw [h1]; decide)]
 rw [HE (by have:=I.side; rcases this with h | h <;> rw [h] <;> decide) (by have:=I.rem; have:=I.ack0; omega) (by have:=I.rem1; omega) h3]
 rfl
section
variable {F0:List AId} {G0 G:ah} {ps:List LP} {Q:ag -> ah -> Prop}
theorem dm.use {f:StF} {n ca cb:Int} {vo vp vh:ag} (hS:kW G f vo vp vh) (hQ:∀ G',Ch [] G [] G' -> Q (.tuple [.str (nB f n ca cb).1,.bool (nB f n ca cb).2]) G'):al P dm.n [f.s.av vo vp vh,.int .i64 n,bR ca cb] G Q:=by
 have ho:=hS.ok
 have hl:=hS.lv
 have hlo:=hS.lo
 have hlp:=hS.lp
 refine dm.sound ?_
 unfold dm.S
 unfold nB at hQ
 intro i1 f1
 have s1:=(Sp.nil G).row f1 (f.s.av vo vp vh)
 intro i3 f3
 have s3:=s1.row f3 (bR ca cb)
 revert s3
 generalize ah.upd _ i3 _ = G4
 intro s3
 have hg:=ar.own (i:=1) s3 rfl
 refine ae (v:=.ptr i1 [13,0] 16) rfl ?_
 refine ae (St.uS hg ho hl) ?_
 refine mZ s3 ho.ptsA fun i7 G9 s9=>?_
 have hg:=ar.own (i:=2) s9 rfl
 refine ae (St.mi hg ho hl) ?_
 rw [dy,aa]
 obtain ⟨pt,hpt⟩:∃ pt,pt = if n ≠ f.s.ack then f.s.ptsB else f.s.ptsA:=⟨_,rfl⟩
 rw [<- hpt] at hQ
 have hp32:pt.length = 32:=by
  rw [hpt]; split
  ·exact ho.ptsB
  ·exact ho.ptsA
 intro J40
 have go:∀ G2,Sp [] G [ar i7 (.agg (pt.map u8v)),ar i3 (bR ca cb),ar i1 (f.s.av vo vp vh)] G2 -> J40 G2:=by
  intro G15 s15
  simp -zeta only [J40]
  have hg:=ar.own (i:=2) s15 rfl
  refine ae (St.FE hg ho hl) ?_
  refine ae (St.FD hg ho hl) ?_
  refine ae (St.gG hg ho hl) ?_
  refine ae (St.iP hg ho hl) ?_
  refine ae (cJ fR (ar.own (i:=1) s15 rfl) rfl) ?_
  refine dI.use (hS.o.mv s15.ch) (hS.p.mv s15.ch) hS.oko hS.okp hS.lo hS.lp fun x G22 t22=>?_
  have hFok:=sa hS ca cb
  have hFlen:=wa f ca cb
  unfold jC at hQ hFok hFlen
  obtain ⟨F,hF⟩:∃ F,F = k8 f.s.bo f.s.bp f.o f.p ca cb:=⟨_,rfl⟩
  rw [<- hF] at hQ hFok hFlen t22 ⊢
  obtain ⟨F22,o22,c22⟩:=t22.out
  have s22:=s15.new o22 c22
  have lx:=(bj.own (i:=0) s22 rfl).leaf
  refine ae (tv0 _ _) ?_
  refine ae (tv1 _ _) ?_
  obtain ⟨w1,w2,w3⟩:=sS (o:=F.o) (q:=F.q) lx
  refine jQ s22 mG w1 (by rw [w2]; rfl) w3 fun i25 G27 s27=>?_
  rw [dy,aa,fg]
  refine ⟨fun h2=>?_,fun h2=>?_⟩
  ·rw [if_pos h2] at hQ
   exact hQ _ s27.ch
  rw [if_neg (fun hh=>hh h2)] at hQ
  have hg:=ar.own (i:=4) s27 rfl
  refine ae (St.m8 hg ho hl) ?_
  rw [bS,aa]
  refine ae (bE hp32 (ar.own (i:=2) s27 rfl)) ?_
  refine ae (ig (i:=0) s27 rfl lx).2.2.2 ?_
  refine eQ.use (bj.own (i:=1) s27 rfl).is hFok (by omega) fun y G34 t34=>?_
  obtain ⟨F34,o34,c34⟩:=t34.out
  have s34:=s27.new o34 c34
  have hg:=ar.own (i:=5) s34 rfl
  refine ⟨⟨bE hp32 (ar.own (i:=3) s34 rfl),St.m8 hg ho hl,trivial⟩,?_⟩
  have hTok:=yo hFok
  refine dG.use hp32 (bj.own (i:=0) s34 rfl).is hTok (by rw [oS]; omega) fun G36 c36=>?_
  have s36:=s34.tmp c36
  refine ae (tv0 _ _) ?_
  refine ae (tv1 _ _) ?_
  rw [bC,aa]
  exact hQ _ s36.ch
 by_cases h1:n = f.s.ack
 ·rw [if_neg (fun hh=>hh h1)] at hpt
  rw [decide_eq_true h1,Bool.not_true,aM]
  rw [<- hpt] at s9
  exact go _ s9
 ·rw [if_pos h1] at hpt
  rw [decide_eq_false h1,Bool.not_false,aX]
  refine ae (v:=.ptr i1 [13,1] 48) rfl ?_
  refine ae (St.xR hg ho hl) ?_
  refine pw (i:=0) s9 rfl ho.ptsA ho.ptsB fun G14 s14=>?_
  rw [<- hpt] at s14
  exact go _ s14
theorem dU.use {f:StF} {c:CfM} {vo vp vh:ag} (hS:kW G f vo vp vh) (I:iC f) (hc:c.ok) (hQ:∀ G',Ch [] G [] G' -> Q (qd c f).av G'):al P dU.n [c.av,f.s.av vo vp vh] G Q:=by
 have ho:=hS.ok
 have hl:=hS.lv
 refine dU.sound ?_
 unfold dU.S
 rw [AZ]
 have hth:=I.Ky
 have hlen:=CB (n:=f.s.rem) ho (sa hS f.s.sgnA f.s.sgnB)
 have hag:qd c f = { bA.zero with kind:=4,index:=f.s.rem,hash:=mac c.key (nB f f.s.rem f.s.sgnA f.s.sgnB).1 }:=by
  have h1:(jC f f.s.sgnA f.s.sgnB).e = 0:=(I.Km (a:=f.s.sgnA) (b:=f.s.sgnB) (by have:=I.a1; have:=I.a2; omega) I.a3 I.b1 (by have:=I.b2; have:=I.b3; omega)).1
  have e:(nB f f.s.rem f.s.sgnA f.s.sgnB).1 = (nC (IntKind.i64.wrap (1 - f.s.side)) f.s.rem (if f.s.rem ≠ f.s.ack then f.s.ptsB else f.s.ptsA) (jC f f.s.sgnA f.s.sgnB).q (jC f f.s.sgnA f.s.sgnB).o (oN (jC f f.s.sgnA f.s.sgnB).l)).1:=by
   unfold nB
   rw [if_neg (fun hh=>hh h1)]
  rw [e]
  rfl
 rw [hag] at hQ
 obtain ⟨W,hW⟩:∃ W,W = nB f f.s.rem f.s.sgnA f.s.sgnB:=⟨_,rfl⟩
 rw [<- hW] at hQ hth hlen
 intro i1 f1
 have s1:=(Sp.nil G).row f1 c.av
 intro i3 f3
 have s3:=s1.row f3 (f.s.av vo vp vh)
 intro i5 f5
 have s5:=s3.row f5 bA.zero.av
 revert s5
 generalize ah.upd _ i5 _ = G6
 intro s5
 have hg:=ar.own (i:=1) s5 rfl
 refine ae (St.ld hg ho hl) ?_
 refine ae (St.kq hg ho hl) ?_
 refine ae (St.BL hg ho hl) ?_
 refine dm.use (hS.mv s5.ch) fun G11 c11=>?_
 rw [<- hW]
 have s11:=s5.tmp c11
 refine ae (tv0 _ _) ?_
 refine ae (tv1 _ _) ?_
 rw [hth,fN,aa,Bool.not_true,aM]
 have hg:=ar.own (i:=1) s11 rfl
 refine ae (St.kq hg ho hl) ?_
 refine ae (Cf.Iv (ar.own (i:=2) s11 rfl) hc) ?_
 refine dK.use hc.key (by omega) fun G21 c21=>?_
 have s21:=s11.tmp c21
 refine ⟨⟨St.kq (ar.own (i:=1) s21 rfl) ho hl,trivial⟩,?_⟩
 have hz:(mac c.key W.1).length = 32:=gI _
 revert hQ hz
 generalize mac c.key W.1 = Z
 intro hQ hz
 have hok:({ bA.zero with kind:=4,index:=f.s.rem,hash:=Z }:bA).ok:=⟨gQ 4 (by decide) (by decide),cD,cD,ho.rem,cD,hz,rfl,by simp [bA.zero]⟩
 refine ae (xk hz) ?_
 refine k7 (i:=0) s21 rfl bA.bD hok fun G23 s23=>?_
 refine ae (cJ dB (ar.own (i:=0) s23 rfl) (bA.fits hok)) ?_
 exact hQ _ s23.ch
theorem dT.use {f:StF} {vo vp vh:ag} {u:aK} (hS:kW G f vo vp vh) (I:iC f) (hu:u.ok) (hQ:∀ G',Ch [] G [] G' -> Q (.int .i64 (y8 f u)) G'):al P dT.n [f.s.av vo vp vh,u.av] G Q:=by
 have ho:=hS.ok
 have hl:=hS.lv
 have hlo:=hS.lo
 have hlp:=hS.lp
 refine dT.sound ?_
 unfold dT.S
 unfold y8 at hQ
 intro i1 f1
 have s1:=(Sp.nil G).row f1 (f.s.av vo vp vh)
 intro i3 f3
 have s3:=s1.row f3 u.av
 revert s3
 generalize ah.upd _ i3 _ = G4
 intro s3
 refine ae (St.ld (ar.own (i:=1) s3 rfl) ho hl) ?_
 refine bV.use (hS.mv s3.ch) fun G7 c7=>?_
 have s7:=s3.tmp c7
 refine jQ (c:=bR (nK f.s) (ng f.s)) s7 fR rfl rfl rfl fun i8 G10 s10=>?_
 have s10:Sp [] G [ar i8 (bR (nK f.s) (ng f.s)),ar i3 u.av,ar i1 (f.s.av vo vp vh)] G10:=s10
 intro J71
 have rem:∀ G2,Sp [] G [ar i8 (bR (nK f.s) (ng f.s)),ar i3 u.av,ar i1 (f.s.av vo vp vh)] G2 ->
   (∀ G',Ch [] G [] G' -> Q (.int .i64 (if (fW false u.id (dP f.o (nK f.s))).isSome = false then 120 else 0)) G') -> J71 G2:=by
  intro G57 s57 hQ
  simp -zeta only [J71]
  refine ae (St.gG (ar.own (i:=2) s57 rfl) ho hl) ?_
  refine ae (kU (ar.own (i:=0) s57 rfl)).1 ?_
  refine ae (dh (i:=1) s57 rfl hu).2.1 ?_
  refine bB.use (hS.o.mv s57.ch) hS.lo fun w hw=>?_
  refine ⟨⟨(dh (i:=1) s57 rfl hu).2.1,trivial⟩,?_⟩
  have hfl:=Mf f.o (nK f.s)
  have hfo:=o8 (n:=nK f.s) hS.oko
  refine dF.use hw.jf hfo (by omega) fun G64 c64=>?_
  have s64:=s57.tmp c64
  have hA:=o7 (rm:=false) (id:=u.id) hfo
  obtain ⟨A,eA⟩:∃ A,A = fW false u.id (dP f.o (nK f.s)):=⟨_,rfl⟩
  rw [<- eA] at hA hQ ⊢
  refine ae (JF _) ?_
  refine ae (JE _) ?_
  refine C3 s64 hA fun i67 G69 s69=>?_
  rw [fN,aa]
  cases hAs:A.isSome with
  | false=>
   rw [hAs,if_pos rfl] at hQ
   exact hQ _ s69.ch
  | true=>
   rw [hAs,if_neg (by decide)] at hQ
   rw [Bool.not_true,aM]
   exact hQ _ s69.ch
 refine ae (St.ld (ar.own (i:=2) s10 rfl) ho hl) ?_
 refine bP.use (hS.mv s10.ch) fun G13 c13=>?_
 have s13:=s10.tmp c13
 rw [iE]
 refine ⟨fun hd=>?_,fun hd=>?_⟩
 ·rw [if_pos hd] at hQ
  exact hQ _ s13.ch
 rw [if_neg (by rw [hd]; decide)] at hQ
 have hg:=ar.own (i:=2) s13 rfl
 refine ae (St.iP hg ho hl) ?_
 refine ae (fy (hS.p.jf.ch' s13.ch)) ?_
 refine ae (St.rf hg ho hl) ?_
 rw [bS,aa,gq,aa,aE]
 refine ⟨fun h1=>?_,fun h1=>?_⟩
 ·rw [if_pos h1] at hQ
  exact hQ _ s13.ch
 rw [if_neg h1] at hQ
 refine ae (St.iP hg ho hl) ?_
 refine ae (St.gG hg ho hl) ?_
 refine ae (dh (i:=1) s13 rfl hu).2.2.2.2.2 ?_
 refine dJ.use (hS.p.jf.ch' s13.ch) (hS.o.jf.ch' s13.ch) hS.okp hS.oko (by omega) (by omega) hu fun G23 c23=>?_
 have s23:=s13.tmp c23
 rw [dy,aa,fg]
 refine ⟨fun h2=>?_,fun h2=>?_⟩
 ·rw [if_pos h2] at hQ
  exact hQ _ s23.ch
 rw [if_neg (fun hh=>hh h2)] at hQ
 intro J53
 refine ae (dh (i:=1) s23 rfl hu).1 ?_
 rw [bC,aa,aE]
 refine ⟨fun hk=>?_,fun hk=>?_⟩
 ·rw [if_pos hk] at hQ
  have hg:=ar.own (i:=2) s23 rfl
  refine ae (St.iP hg ho hl) ?_
  refine ae (St.gG hg ho hl) ?_
  refine ae (kU (ar.own (i:=0) s23 rfl)).1 ?_
  refine bB.use (hS.o.mv s23.ch) hS.lo fun w hw=>?_
  refine ⟨⟨St.iP hg ho hl,trivial⟩,?_⟩
  have hfl:=Mf f.o (nK f.s)
  refine dE.use (hS.p.jf.ch' s23.ch) hw.jf hS.lp (by omega) ?_
  rw [yQ I.vp I.vo]
  rw [gq,aa]
  by_cases h3:(483:Int) ≤ ((kp f.p f.o (nK f.s):Nat):Int)
  ·rw [if_pos (by omega)] at hQ
   rw [decide_eq_true h3]
   simp -zeta only [J53,aX]
   exact hQ _ s23.ch
  ·rw [if_neg (by omega)] at hQ
   rw [decide_eq_false h3]
   simp -zeta only [J53,aM]
   refine ae (dh (i:=1) s23 rfl hu).1 ?_
   rw [hk,ez0,aa,aX]
   refine ae (dh (i:=1) s23 rfl hu).2.2.1 ?_
   refine ae (St.ld hg ho hl) ?_
   refine bM.use (hS.mv s23.ch) I fun G42 c42=>?_
   have s42:=s23.tmp c42
   refine ⟨⟨(dh (i:=1) s42 rfl hu).2.2.1,trivial⟩,?_⟩
   rw [de,aa,aE]
   refine ⟨fun h4=>?_,fun h4=>?_⟩
   ·rw [if_pos h4] at hQ
    exact hQ _ s42.ch
   rw [if_neg h4] at hQ
   refine ae (dh (i:=1) s42 rfl hu).1 ?_
   rw [hk,ez0,aa,aX]
   exact hQ _ s42.ch
 ·rw [if_neg hk] at hQ
  simp -zeta only [J53,aM]
  have e1:aw T .eql au (.int .i64 u.kind) (.int .i64 1) = some (.bool false):=by rw [bC,decide_eq_false hk]
  refine ae (dh (i:=1) s23 rfl hu).1 ?_
  rw [e1,aa,aM]
  refine ae (dh (i:=1) s23 rfl hu).1 ?_
  rw [e1,aa,aM]
  refine rem _ s23 fun G' hc=>?_
  have hq:=hQ G' hc
  by_cases hA:(fW false u.id (dP f.o (nK f.s))).isSome = false
  ·rw [if_pos hA] at hq ⊢
   exact hq
  ·rw [if_neg hA] at hq ⊢
   have hA':(fW false u.id (dP f.o (nK f.s))).isSome = true:=(Bool.not_eq_false _).mp hA
   have e2:fW false u.id f.o = fW false u.id (dP f.o (nK f.s)):=by
    have:=Mn (Y:=f.o.drop (nK f.s).toNat) hA'
    unfold dP at this ⊢
    rwa [List.take_append_drop] at this
   have h5:=((mh h2).2.2 hk).2.2
   rw [e2] at h5
   rw [if_neg h5] at hq
   exact hq
theorem eP.use {f:StF} {c:CfM} {m:bA} {vo vp vh:ag} (hS:kW G f vo vp vh) (I:iC f) (hc:c.ok) (hm:m.ok)
  (hQ:∀ w G',Sp [] G [bj 36 w ((oB c f m).l.map aK.av)] G' -> Q (.tuple [(oB c f m).r.av w,.int .i64 (oB c f m).e]) G'):al P eP.n [c.av,f.s.av vo vp vh,m.av] G Q:=by
 have ho:=hS.ok
 have hl:=hS.lv
 have hlo:=hS.lo
 have hlp:=hS.lp
 refine eP.sound ?_
 unfold eP.S
 rw [DM]
 obtain ⟨R,hR⟩:∃ R,R = oB c f m:=⟨_,rfl⟩
 rw [<- hR] at hQ
 unfold oB at hR
 intro i1 f1
 have s1:=(Sp.nil G).row f1 c.av
 intro i3 f3
 have s3:=s1.row f3 (f.s.av vo vp vh)
 intro i5 f5
 have s5:=s3.row f5 m.av
 intro i7 f7
 have s7:=s5.row f7 (RcM.zero.av .nilSlice)
 revert s7
 generalize ah.upd _ i7 _ = G8
 intro s7
 have hg:=ar.own (i:=2) s7 rfl
 refine ae (St.r7 hg ho hl) ?_
 refine ae (St.iP hg ho hl) ?_
 refine ae (fy (hS.p.jf.ch' s7.ch)) ?_
 refine ae (v:=bR f.s.heldA (f.p.length:Nat)) rfl ?_
 refine jQ (c:=bR f.s.heldA (f.p.length:Nat)) s7 fR rfl rfl rfl fun i13 G15 s15=>?_
 refine ae (St.ld (ar.own (i:=3) s15 rfl) ho hl) ?_
 refine bP.use (hS.mv s15.ch) fun G18 c18=>?_
 have s18:=s15.tmp c18
 have s18:Sp [] G [ar i13 (bR f.s.heldA (f.p.length:Nat)),ar i7 (RcM.zero.av .nilSlice),ar i5 m.av,ar i3 (f.s.av vo vp vh),ar i1 c.av] G18:=s18
 have no:∀ {e:Int} {G2:ah},Sp [] G [ar i13 (bR f.s.heldA (f.p.length:Nat)),ar i7 (RcM.zero.av .nilSlice),ar i5 m.av,ar i3 (f.s.av vo vp vh),ar i1 c.av] G2 -> R = noC e ->
   wv (bk T aD []) fun v17=>wg (ax T G2 aD (.ptr i7 [] 0) v17) fun G18=>wv (lq T G18 aD (.ptr i7 [] 0)) fun v19=>Q (.tuple [v19,.int .i64 e]) G18:=by
  intro e G2 s2 he
  refine nu (j:=1) s2 rfl RcM.bD bz.nil fun G' s'=>?_
  have:=hQ .nilSlice G'
  rw [he] at this
  exact this (((Sp.nil G).tmp s'.ch).nd 36)
 rw [iE]
 refine ⟨fun hd=>no s18 (by rw [hR,if_pos hd]),fun hd=>?_⟩
 rw [if_neg (by rw [hd]; decide)] at hR
 obtain ⟨m0,_,_,m3,_,m5,_,_,_⟩:=gL (i:=2) s18 rfl hm
 refine ae m0 ?_
 rw [dy,aa,fg]
 refine ⟨fun h1=>no s18 (by rw [hR,if_pos h1]),fun h1=>?_⟩
 rw [if_neg (fun hh=>hh h1)] at hR
 have hg:=ar.own (i:=3) s18 rfl
 intro J44
 have bad:(281474976710653 < f.s.loc \/ m.index ≠ f.s.loc + 1) -> J44 (.bool true) G18:=by
  intro hb
  simp -zeta only [J44,aX]
  exact no s18 (by rw [hR,if_pos hb])
 have kA:¬ (281474976710653 < f.s.loc \/ m.index ≠ f.s.loc + 1) -> J44 (.bool false) G18:=by
  intro hb
  rw [if_neg hb] at hR
  simp -zeta only [J44,aM]
  refine ae (cJ fR (ar.own (i:=0) s18 rfl) rfl) ?_
  refine ae (St.Lh hg ho hl) ?_
  rw [Ft (t:=bG),aa,aE]
  refine ⟨fun h2=>no s18 (by rw [hR,if_pos h2]),fun h2=>?_⟩
  rw [if_neg h2] at hR
  refine ae (Cf.ld (ar.own (i:=4) s18 rfl) hc) ?_
  refine ae (St.ld hg ho hl) ?_
  refine ae m3 ?_
  refine ae (cJ fR (ar.own (i:=0) s18 rfl) rfl) ?_
  refine eO.use (hS.mv s18.ch) hc fun G50 c50=>?_
  have s50:=s18.tmp c50
  have hol:=H7 (c:=c) (n:=m.index) (sa hS f.s.heldA (f.p.length:Nat))
  obtain ⟨W,hW⟩:∃ W,W = CW c f m.index f.s.heldA (f.p.length:Nat):=⟨_,rfl⟩
  rw [<- hW] at hR hol ⊢
  refine ae (tv0 _ _) ?_
  refine ae (tv1 _ _) ?_
  intro J80
  have bad2:∀ G2,Sp [] G [ar i13 (bR f.s.heldA (f.p.length:Nat)),ar i7 (RcM.zero.av .nilSlice),ar i5 m.av,ar i3 (f.s.av vo vp vh),ar i1 c.av] G2 -> (W.2 = false \/ mac c.pkey W.1 ≠ m.hash) -> J80 (.bool true) G2:=by
   intro G2 s2 hb
   simp -zeta only [J80,aX]
   exact no s2 (by rw [hR,if_pos hb])
  have good2:∀ G2,Sp [] G [ar i13 (bR f.s.heldA (f.p.length:Nat)),ar i7 (RcM.zero.av .nilSlice),ar i5 m.av,ar i3 (f.s.av vo vp vh),ar i1 c.av] G2 -> ¬ (W.2 = false \/ mac c.pkey W.1 ≠ m.hash) -> J80 (.bool false) G2:=by
   intro G65 s65 hb
   rw [if_neg hb] at hR
   simp -zeta only [J80,aM]
   have hg:=ar.own (i:=3) s65 rfl
   obtain ⟨_,_,_,m3,_,m5,_,_,_⟩:=gL (i:=2) s65 rfl hm
   refine ae m3 ?_
   refine ae (St.iP hg ho hl) ?_
   refine ae (St.rf hg ho hl) ?_
   have hb0:0 ≤ f.s.atB:=by have:=I.b0; have:=I.b1; have:=I.b2; omega
   have hfl:(dP f.p f.s.atB).length = f.s.atB.toNat:=by
    unfold dP
    rw [List.length_take]
    have:=I.b3
    omega
   rw [hfl] at hR
   obtain ⟨w2,e1,e2⟩:=iu.drop (ie:=dA) (k:=.i64) (m:=f.s.atB.toNat) cn rfl fC (hS.p.mv s65.ch) (by rw [List.length_map]; have:=I.b3; omega)
   rw [<- List.map_drop] at e2
   rw [Int.toNat_of_nonneg hb0] at e1
   refine ae e1 ?_
   refine ae m5 ?_
   have okd:∀ u ∈ f.p.drop f.s.atB.toNat,u.ok:=fun u hu=>hS.okp u (List.mem_of_mem_drop hu)
   refine wZ (T:=T) (ts:=ak) (e:=aI) (si:=fl) (ie:=dA) (tx:=ak) (xi:=fl) (i:=0) (vs:=[]) (xs:=(f.p.drop f.s.atB.toNat).map aK.av) cn rfl fC rfl (by decide) cn (.inr ⟨_,rfl⟩) (s65.nd 36) rfl e2.elems (oj okd).1 (oj okd).2 (by rw [show dA.bytes = 72 from rfl,List.length_map,List.length_drop]; simp; omega) fun w3 G76 s76=>?_
   have s76:Sp [] G [bj 36 w3 ((f.p.drop f.s.atB.toNat).map aK.av),ar i13 (bR f.s.heldA (f.p.length:Nat)),ar i7 (RcM.zero.av .nilSlice),ar i5 m.av,ar i3 (f.s.av vo vp vh),ar i1 c.av] G76:=s76
   obtain ⟨_,_,_,m3,_,m5,_,_,_⟩:=gL (i:=3) s76 rfl hm
   refine ⟨⟨m5,m3,trivial⟩,?_⟩
   have lw:bz w3:=(bj.own (i:=0) s76 rfl).leaf
   have hok:({ RcM.zero with kind:=3,index:=m.index,sig:=m.hash }:RcM).ok:=⟨gQ 3 (by decide) (by decide),aK.bD,hm.index,cD,cD,hm.hash,rfl,rfl,cD⟩
   refine ae (EN hm.hash lw) ?_
   refine Rc.st (i:=2) s76 rfl RcM.bD bz.nil hok lw fun G78 s78=>?_
   refine ae (Rc.ld (ar.own (i:=2) s78 rfl) hok lw) ?_
   have:=hQ w3 G78
   rw [hR] at this
   exact this ((((s78.erase 1).erase 1).erase 1).erase 1 |>.erase 1)
  rw [fN,aa]
  cases hW2:W.2 with
  | false=>
   rw [Bool.not_false,aX]
   exact bad2 _ s50 (.inl hW2)
  | true=>
   rw [Bool.not_true,aM]
   refine ae (Cf.JL (ar.own (i:=4) s50 rfl) hc) ?_
   obtain ⟨_,_,_,_,_,m5,_,_,_⟩:=gL (i:=2) s50 rfl hm
   refine ae m5 ?_
   refine dW.use hc.pkey hm.hash (by omega) fun G57 c57=>?_
   have s57:=s50.tmp c57
   rw [fN,aa]
   by_cases h3:mac c.pkey W.1 = m.hash
   ·rw [decide_eq_true h3,Bool.not_true,aM]
    have hg:=ar.own (i:=3) s57 rfl
    have hb0:0 ≤ f.s.atB:=by have:=I.b0; have:=I.b1; have:=I.b2; omega
    have hb3:=I.b3
    refine ae (St.rf hg ho hl) ?_
    rw [aH,aa,decide_eq_false (by omega),aM]
    refine ae (St.rf hg ho hl) ?_
    refine ae (St.iP hg ho hl) ?_
    refine ae (fy (hS.p.jf.ch' s57.ch)) ?_
    rw [de,aa,decide_eq_false (by omega)]
    exact good2 _ s57 (by rw [hW2]; simp [h3])
   ·rw [decide_eq_false h3,Bool.not_false,aX]
    exact bad2 _ s57 (.inr h3)
 refine ae m3 ?_
 refine ae (St.pq hg ho hl) ?_
 have hloc:=I.loc1
 have hloc0:=I.loc0
 rw [wi,i64_in (by omega) (by omega),aa,dy,aa,fg]
 refine ⟨fun h2=>bad (.inr h2),fun h2=>?_⟩
 refine ae (St.pq hg ho hl) ?_
 rw [de,aa]
 by_cases h3:281474976710653 < f.s.loc
 ·rw [decide_eq_true h3]
  exact bad (.inl h3)
 ·rw [decide_eq_false h3]
  exact kA (by rintro (h | h); exact h3 h; exact h h2)
theorem cM.use {f:StF} {m:bA} {vo vp vh:ag} (hS:kW G f vo vp vh) (I:iC f) (hm:m.ok) (hQ:∀ G',Ch [] G [] G' -> Q (zN (jz f m)) G'):al P cM.n [f.s.av vo vp vh,m.av] G Q:=by
 have ho:=hS.ok
 have hl:=hS.lv
 refine cM.sound ?_
 unfold cM.S
 rw [DM]
 unfold jz at hQ
 have hrem:=I.rem
 have hrem1:=I.rem1
 have hack:=I.ack0
 rw [i64_in (n:=f.s.rem - 1) (by omega) (by omega)] at hQ
 intro i1 f1
 have s1:=(Sp.nil G).row f1 (f.s.av vo vp vh)
 intro i3 f3
 have s3:=s1.row f3 m.av
 intro i5 f5
 have s5:=s3.row f5 (RcM.zero.av .nilSlice)
 revert s5
 generalize ah.upd _ i5 _ = G6
 intro s5
 refine ae (St.ld (ar.own (i:=2) s5 rfl) ho hl) ?_
 refine bP.use (hS.mv s5.ch) fun G9 c9=>?_
 have s9:=s5.tmp c9
 have s9:Sp [] G [ar i5 (RcM.zero.av .nilSlice),ar i3 m.av,ar i1 (f.s.av vo vp vh)] G9:=s9
 rw [iE]
 refine ⟨fun hd=>?_,fun hd=>?_⟩
 ·rw [if_pos hd] at hQ
  exact nu (j:=0) s9 rfl RcM.bD bz.nil fun G' s'=>hQ G' s'.ch
 rw [if_neg (by rw [hd]; decide)] at hQ
 obtain ⟨m0,_,_,m3,_,_,_,_,_⟩:=gL (i:=1) s9 rfl hm
 refine ae m0 ?_
 rw [dy,aa,fg]
 refine ⟨fun h1=>?_,fun h1=>?_⟩
 ·rw [if_pos h1] at hQ
  exact nu (j:=0) s9 rfl RcM.bD bz.nil fun G' s'=>hQ G' s'.ch
 rw [if_neg (fun hh=>hh h1)] at hQ
 have hg:=ar.own (i:=2) s9 rfl
 intro J39
 have bad:(f.s.rem = f.s.ack \/ f.s.rem - 1 ≠ f.s.ack \/ m.index ≠ f.s.ack) -> J39 (.bool true) G9:=by
  intro hb
  rw [if_pos hb] at hQ
  simp -zeta only [J39,aX]
  exact nu (j:=0) s9 rfl RcM.bD bz.nil fun G' s'=>hQ G' s'.ch
 have kA:¬ (f.s.rem = f.s.ack \/ f.s.rem - 1 ≠ f.s.ack \/ m.index ≠ f.s.ack) -> J39 (.bool false) G9:=by
  intro hb
  rw [if_neg hb] at hQ
  simp -zeta only [J39,aM]
  refine ae (gL (i:=1) s9 rfl hm).2.2.2.2.2.2.1 ?_
  refine ae (v:=.ptr i1 [13,0] 16) rfl ?_
  refine ae (St.uS hg ho hl) ?_
  refine bW.use hm.secret fun G34 c34=>?_
  have s34:=s9.tmp c34
  have hg:=ar.own (i:=2) s34 rfl
  refine ⟨⟨St.uS hg ho hl,trivial⟩,?_⟩
  rw [uW (kd _) ho.ptsA,aa,fg]
  refine ⟨fun h2=>?_,fun h2=>?_⟩
  ·rw [if_pos h2] at hQ
   exact nu (j:=0) s34 rfl RcM.bD bz.nil fun G' s'=>hQ G' s'.ch
  rw [if_neg (fun hh=>hh h2)] at hQ
  refine ae (St.r6 hg ho hl) ?_
  refine ae (St.mi hg ho hl) ?_
  refine ae (gL (i:=1) s34 rfl hm).2.2.2.2.2.2.1 ?_
  refine eH.use (hS.h.jf.ch' s34.ch) hS.okh hS.lh hm.secret fun w G44 t44=>?_
  have s44:=s34.tmp t44.ch
  refine ae (tv0 _ _) ?_
  refine ae (tv1 _ _) ?_
  rw [dy,aa,fg]
  refine ⟨fun h3=>?_,fun h3=>?_⟩
  ·rw [if_pos h3] at hQ
   exact nu (j:=0) s44 rfl RcM.bD bz.nil fun G' s'=>hQ G' s'.ch
  rw [if_neg (fun hh=>hh h3)] at hQ
  have hg:=ar.own (i:=2) s44 rfl
  obtain ⟨_,_,_,_,_,m5,m6,_,_⟩:=gL (i:=1) s44 rfl hm
  refine ae (St.mi hg ho hl) ?_
  refine ae m6 ?_
  refine ae m5 ?_
  have hok:({ RcM.zero with kind:=4,index:=f.s.ack,secret:=m.secret,point:=m.hash }:RcM).ok:=⟨gQ 4 (by decide) (by decide),aK.bD,ho.ack,cD,cD,rfl,hm.secret,hm.hash,cD⟩
  refine ae (Hb hm.secret hm.hash) ?_
  refine Rc.st (i:=0) s44 rfl RcM.bD bz.nil hok bz.nil fun G55 s55=>?_
  refine ae (Rc.ld (ar.own (i:=0) s55 rfl) hok bz.nil) ?_
  exact hQ _ s55.ch
 refine ae (St.kq hg ho hl) ?_
 refine ae (St.mi hg ho hl) ?_
 rw [wi,i64_in (by omega) (by omega),aa,dy,aa,fg]
 refine ⟨fun h2=>bad (by omega),fun h2=>?_⟩
 refine ae m3 ?_
 refine ae (St.mi hg ho hl) ?_
 rw [dy,aa]
 by_cases h4:m.index = f.s.ack
 ·rw [decide_eq_true h4]
  exact kA (by rintro (h | h | h); omega; omega; exact h h4)
 ·rw [decide_eq_false h4]
  exact bad (.inr (.inr h4))
end
end Go.Esc.M
namespace Go.Esc
open Go Go.RowKit
theorem Sps.front {G:ah}:∀ {ps:List LP} {Fs:List (List AId)},Sps ps Fs G -> ∀ {i:Nat} {p:LP},ps[i]? = some p -> ∃ F,Sps (p :: ps.eraseIdx i) (F :: Fs.eraseIdx i) G /\ ∀ j ∈ (F :: Fs.eraseIdx i).flatten,j ∈ Fs.flatten
 | [],_,_,_,_,hi=>by simp at hi
 | _ :: _,[],h,_,_,_=>h.elim
 | q :: ps,E :: Fs,h,0,p,hi=>by
  simp at hi
  subst hi
  exact ⟨E,h,fun j hj=>hj⟩
 | q :: ps,E :: Fs,h,i + 1,p,hi=>by
  obtain ⟨h1,h2,h3⟩:=h
  obtain ⟨F,⟨k1,k2,k3⟩,k4⟩:=Sps.front h3 (i:=i) (p:=p) (by simpa using hi)
  have hF:∀ j ∈ F,j ∈ Fs.flatten:=fun j hj=>k4 j (by simp [hj])
  refine ⟨F,⟨k1,fun j hj hm=>?_,h1,fun j hj hm=>h2 j hj (k4 j ?_),k3⟩,fun j hj=>?_⟩
  ·have hm:j ∈ E \/ j ∈ (Fs.eraseIdx i).flatten:=by simpa using hm
   rcases hm with hm | hm
   ·exact h2 j hm (hF j hj)
   ·exact k2 j hj hm
  ·simp only [List.flatten_cons,List.mem_append]; exact .inr hm
  ·have hj:j ∈ F \/ j ∈ E \/ j ∈ (Fs.eraseIdx i).flatten:=by simpa using hj
   simp only [List.flatten_cons,List.mem_append]
   rcases hj with hj | hj | hj
   ·exact .inr (hF j hj)
   ·exact .inl hj
   ·exact .inr (k4 j (by simp only [List.flatten_cons,List.mem_append]; exact .inr hj))
section
variable {F0:List AId} {G0 G:ah} {ps:List LP}
theorem Sp.front {p:LP} {i:Nat} (h:Sp F0 G0 ps G) (hi:ps[i]? = some p):Sp F0 G0 (p :: ps.eraseIdx i) G:=by
 obtain ⟨Fs,h1,h2⟩:=h
 obtain ⟨F,k1,k2⟩:=h1.front hi
 exact ⟨_,k1,h2.ro,h2.others,fun j hj=>h2.row j (k2 j hj)⟩
theorem Sps.take:∀ {ps:List LP} {Fs:List (List AId)},Sps ps Fs G -> ∀ n:Nat,Sps (ps.take n) (Fs.take n) G
 | [],[],_,n=>by simp [Sps]
 | [],_ :: _,h,_=>h.elim
 | _ :: _,[],h,_=>h.elim
 | p :: ps,F :: Fs,h,0=>by simp [Sps]
 | p :: ps,F :: Fs,h,n + 1=>⟨h.1,fun j hj hm=>h.2.1 j hj (by
   simp only [List.mem_flatten] at hm ⊢
   obtain ⟨l,hl,hj⟩:=hm
   exact ⟨l,List.mem_of_mem_take hl,hj⟩),Sps.take h.2.2 n⟩
theorem Sp.take (h:Sp F0 G0 ps G) (n:Nat):Sp F0 G0 (ps.take n) G:=by
 obtain ⟨Fs,h1,h2⟩:=h
 refine ⟨_,h1.take n,h2.ro,h2.others,fun j hj=>h2.row j ?_⟩
 simp only [List.mem_flatten] at hj ⊢
 obtain ⟨l,hl,hj⟩:=hj
 exact ⟨l,List.mem_of_mem_take hl,hj⟩
end
end Go.Esc
namespace Go.Esc.M
open Go Go.Esc
def sj (f:StF) (u:aK):StF:=⟨f.s,f.o ++ [u],f.p,f.h⟩
def xn (f:StF) (r:RcM):StF:=⟨{ f.s with rem:=r.index,sgnA:=r.cntA,sgnB:=r.cntB,behind:=true },f.o,f.p,f.h⟩
def wB (f:StF) (r:RcM) (l:List aK):StF:=⟨{ f.s with loc:=r.index,atA:=f.s.heldA,atB:=((dP f.p f.s.atB ++ l).length:Nat),sig:=r.sig,behind:=false },f.o,dP f.p f.s.atB ++ l,f.h⟩
def tD (f:StF) (r:RcM):StF:=⟨{ f.s with ack:=f.s.ack + 1,heldA:=f.s.sgnA,heldB:=f.s.sgnB,ptsA:=f.s.ptsB,ptsB:=r.point },f.o,f.p,(uG f.h r.index r.secret).1⟩
def zE (f:StF) (r:RcM) (l:List aK) (f':StF):Prop :=
 (r.kind = 1 /\ jW f.o f.p r.upd = 0 /\ f' = sj f r.upd) ∨
 (r.kind = 2 /\ f.s.rem = f.s.ack /\ r.index = f.s.rem + 1 /\ r.cntB = f.s.atB /\ f.s.sgnA ≤ r.cntA /\ r.cntA ≤ (f.o.length:Nat) /\ f' = xn f r) ∨
 (r.kind = 3 /\ (∀ (j:Nat) (u:aK),l[j]? = some u -> jW (dP f.p f.s.atB ++ l.take j) f.o u = 0) /\ r.index = f.s.loc + 1 /\ f' = wB f r l) ∨
 (r.kind = 4 /\ (uG f.h r.index r.secret).2 = 0 /\ f.s.rem = f.s.ack + 1 /\ r.index = f.s.ack /\ f' = tD f r)
section
variable {F0:List AId} {G0 G:ah} {ps:List LP} {Q:ag -> ah -> Prop}
theorem IG {x:ag} {l:List aK} {K:ag -> ah -> Prop} (s:Sp F0 G0 ps G) (hx:fV 36 G x (l.map aK.av)) (hok:∀ u ∈ l,u.ok) (hlen:l.length ≤ 1048576) (hK:∀ w G2,Sp F0 G0 (bj 36 w (l.map aK.av) :: ps) G2 -> K w G2):cc T G ak ak .nilSlice x K:=by
 refine wZ (T:=T) (ts:=ak) (e:=aI) (si:=fl) (ie:=dA) (tx:=ak) (xi:=fl) (i:=0) (vs:=[]) (xs:=l.map aK.av) cn rfl fC rfl (by decide) cn (.inr ⟨_,rfl⟩) (s.nd 36) rfl hx.elems (oj hok).1 (oj hok).2 (by rw [show dA.bytes = 72 from rfl,List.length_map]; simp; omega) fun w G5 s5=>?_
 exact hK w G5 s5
theorem IF {v:ag} {l:List aK} {i:Nat} {u:aK} {K:ag -> ah -> Prop} (hs:Sp F0 G0 ps G) (hi:ps[i]? = some (bj 36 v (l.map aK.av))) (hu:u.ok) (hl:l.length ≤ 1100000000) (hK:∀ w G',Sp F0 G0 (ps.set i (bj 36 w ((l ++ [u]).map aK.av))) G' -> K w G') :
  bh T ak 1 [(0,u.av)] G fun v2 G'=>cc T G' ak ak v v2 K :=
 uY (T:=T) (ts:=ak) (e:=aI) (si:=fl) (ie:=dA) (i:=i) (vs:=l.map aK.av) cn rfl fC rfl (by decide) hs hi (aK.sz hu) (aK.okv _) (by decide) (by rw [List.length_map]; simp only [dA]; omega) fun w G' s=>hK w G' (by rw [List.map_append]; exact s)
theorem c0.use {v w x:ag} {own other l:List aK} (hv:fV 36 G v (own.map aK.av)) (hw:fV 36 G w (other.map aK.av)) (hx:fV 36 G x (l.map aK.av)) (ok1:∀ u ∈ own,u.ok) (ok2:∀ u ∈ other,u.ok) (ok3:∀ u ∈ l,u.ok)
  (hlen:own.length + l.length ≤ 1048576) (hlen2:other.length ≤ 1048576) (h:∀ (j:Nat) (u:aK),l[j]? = some u -> jW (own ++ l.take j) other u = 0)
  (hQ:∀ z G',Sp [] G [bj 36 z ((own ++ l).map aK.av)] G' -> Q (.tuple [z,.bool true]) G'):al P c0.n [v,w,x] G Q:=by
 refine c0.sound ?_
 unfold c0.S
 refine IG (Sp.nil G) hv ok1 (by omega) fun z G2 s2=>?_
 intro R hR
 have loop:∀ (n j:Nat) (z:ag) (G':ah),l.length - j = n -> j ≤ l.length -> Sp [] G [bj 36 z ((own ++ l.take j).map aK.av)] G' -> R [w,x,z,.int .i64 (j:Int)] G':=by
  intro n
  induction n with
  | zero=>
   intro j z G' hn hj s
   have:j = l.length:=by omega
   subst this
   rw [List.take_length] at s
   refine hR _ _ _ _ _ ?_
   refine ae (fy (hx.ch' s.ch)) ?_
   rw [aH,aa,aE]
   exact ⟨fun h=>absurd h (by omega),fun _=>hQ z G' s⟩
  | succ n ih=>
   intro j z G' hn hj s
   obtain ⟨u,hu⟩:∃ u,l[j]? = some u:=⟨_,List.getElem?_eq_getElem (by omega)⟩
   have huo:=ok3 u (List.mem_of_getElem? hu)
   have hlt:(own ++ l.take j).length ≤ 1048576:=by rw [List.length_append,List.length_take]; omega
   have okj:∀ y ∈ own ++ l.take j,y.ok:=by
    intro y hy
    rcases List.mem_append.1 hy with hy | hy
    ·exact ok1 y hy
    ·exact ok3 y (List.mem_of_mem_take hy)
   refine hR _ _ _ _ _ ?_
   refine ae (fy (hx.ch' s.ch)) ?_
   rw [aH,aa,aE]
   refine ⟨fun _=>?_,fun h=>absurd (by omega) h⟩
   obtain ⟨a,a1,a2⟩:=oF (hx.ch' s.ch) hu
   refine ae a1 ?_
   refine ae a2 ?_
   refine dJ.use (bj.own (i:=0) s rfl).is (hw.ch' s.ch) okj ok2 (by omega) (by omega) huo fun G14 c14=>?_
   have s14:=s.tmp c14
   rw [h j u hu]
   refine ae nz0 ?_
   rw [aM]
   obtain ⟨a,a1,a2⟩:=oF (hx.ch' s14.ch) hu
   refine ae a1 ?_
   refine ae a2 ?_
   refine IF (i:=0) s14 rfl huo (by omega) fun z' G21 s21=>?_
   rw [wi,i64_in (by omega) (by omega),aa]
   refine ih (j + 1) z' G21 (by omega) (by omega) ?_
   rw [List.take_add_one,hu,<- List.append_assoc]
   exact s21
 exact loop l.length 0 z G2 (by omega) (by omega) (by simpa using s2)
theorem cN.use {f f':StF} {r:RcM} {l:List aK} {v vo vp vh:ag} (hS:kW G f vo vp vh) (hr:r.ok) (hv:bz v) (hl:fV 36 G v (l.map aK.av)) (okl:∀ u ∈ l,u.ok) (hll:l.length ≤ 4096) (hlo:f.o.length ≤ 4096) (hlp:f.p.length ≤ 4096) (hlh:f.h.length ≤ 49) (h:zE f r l f')
  (hQ:∀ wo wp wh G',Sp [] G [bj 34 wh (f'.h.map cB.av),bj 36 wp (f'.p.map aK.av),bj 36 wo (f'.o.map aK.av)] G' -> Q (.tuple [f'.s.av wo wp wh,.bool true]) G'):al P cN.n [f.s.av vo vp vh,r.av v] G Q:=by
 have ho:=hS.ok
 have lS:=hS.lv
 refine cN.sound ?_
 unfold cN.S
 rw [F6]
 intro i1 f1
 have s1:=(Sp.nil G).row f1 (f.s.av vo vp vh)
 intro i3 f3
 have s3:=s1.row f3 (r.av v)
 intro i5 f5
 have s5:=s3.row f5 (StM.zero.av .nilSlice .nilSlice .nilSlice)
 revert s5
 generalize ah.upd _ i5 _ = G6
 intro s5
 rw [<- F6]
 refine ae (St.ld (ar.own (i:=2) s5 rfl) ho lS) ?_
 refine fw.use (hS.mv s5.ch) fun wo0 wp0 wh G9 t9=>?_
 have s9:Sp [] G [bj 34 wh (f.h.map cB.av),bj 36 wp0 ((dP f.p f.s.atB).map aK.av),bj 36 wo0 (f.o.map aK.av),ar i5 (StM.zero.av .nilSlice .nilSlice .nilSlice),ar i3 (r.av v),ar i1 (f.s.av vo vp vh)] G9:=by
  obtain ⟨Fs,h1,h2⟩:=s5
  obtain ⟨Gs,t1,t2⟩:=t9
  have key:∀ {G':ah} {qs ps:List LP} {Gs Fs:List (List AId)},Sps ps Fs G' -> Sps qs Gs G' -> (∀ j ∈ Gs.flatten,j ∉ Fs.flatten) -> Sps (qs ++ ps) (Gs ++ Fs) G':=by
   intro G' qs
   induction qs with
   | nil=>
    intro ps Gs Fs h t _
    cases Gs with
    | nil=>exact h
    | cons _ _=>exact t.elim
   | cons q qs ih=>
    intro ps Gs Fs h t hd
    cases Gs with
    | nil=>exact t.elim
    | cons E Gs=>
     obtain ⟨t1,t2,t3⟩:=t
     refine ⟨t1,fun j hj hm=>?_,ih h t3 fun j hj=>hd j (by simp only [List.flatten_cons,List.mem_append]; exact .inr hj)⟩
     have hm:j ∈ (Gs ++ Fs).flatten:=hm
     rw [List.flatten_append,List.mem_append] at hm
     rcases hm with hm | hm
     ·exact t2 j hj hm
     ·exact hd j (by simp only [List.flatten_cons,List.mem_append]; exact .inl hj) hm
  refine ⟨Gs ++ Fs,key (qs:=[bj 34 wh (f.h.map cB.av),bj 36 wp0 ((dP f.p f.s.atB).map aK.av),bj 36 wo0 (f.o.map aK.av)]) (h1.same fun j hj=>t2.same (E:=Fs.flatten) h1.rows (by simp) j hj) t1 fun j hj hm=>?_,h2.trans ?_⟩
  ·rcases t2.row j hj with h' | h'
   ·simp at h'
   ·have:=h1.rows j hm
    rw [h'] at this; cases this
  ·have:=t2.more (E:=Fs.flatten)
   simpa using this
 have l0:bz wo0 /\ bz wp0 /\ bz wh:=⟨(bj.own (i:=2) s9 rfl).leaf,(bj.own (i:=1) s9 rfl).leaf,(bj.own (i:=0) s9 rfl).leaf⟩
 refine St.nw s9 ho l0 fun i10 G12 s12=>?_
 refine ae (St.iP (ar.own (i:=6) s12 rfl) ho lS) ?_
 refine IG s12 (hS.p.jf.ch' s12.ch) hS.okp hS.lp fun wp G15 s15=>?_
 have lp:=(bj.own (i:=0) s15 rfl).leaf
 refine St.uz (i:=1) s15 rfl ho l0 lp fun G16 s16=>?_
 have l1:bz wo0 /\ bz wp /\ bz wh:=⟨l0.1,lp,l0.2.2⟩
 have s16:Sp [] G [bj 36 wp (f.p.map aK.av),ar i10 (f.s.av wo0 wp wh),bj 34 wh (f.h.map cB.av),bj 36 wp0 ((dP f.p f.s.atB).map aK.av),bj 36 wo0 (f.o.map aK.av),ar i5 (StM.zero.av .nilSlice .nilSlice .nilSlice),ar i3 (r.av v),ar i1 (f.s.av vo vp vh)] G16:=s16
 have hg:=ar.own (i:=7) s16 rfl
 have hr3:=ar.own (i:=6) s16 rfl
 refine ae (Rc.uT hr3 hr hv) ?_
 rw [bC,aa,aE]
 have nk:∀ {a b:Int} {t:TypeId},a = b -> aw T .eql t (.int .i64 a) (.int .i64 b) = some (.bool true):=fun h=>by rw [h]; exact ez0
 refine ⟨fun hk=>?_,fun hk1=>?_⟩
 ·obtain ⟨_,hn,rfl⟩:r.kind = 1 /\ jW f.o f.p r.upd = 0 /\ f' = sj f r.upd:=by
   rcases h with h | ⟨h,_⟩ | ⟨h,_⟩ | ⟨h,_⟩
   ·exact h
   all_goals omega
  refine ae (St.gG hg ho lS) ?_
  refine ae (St.iP hg ho lS) ?_
  refine ae (Rc.Ir hr3 hr hv) ?_
  refine B3 (T:=T) (ts:=ak) (e:=aI) (si:=fl) (ie:=dA) cn rfl fC rfl s16 (aK.sz hr.upd) (by decide) fun v22 G23 s23=>?_
  have o1:∀ u ∈ [r.upd],u.ok:=fun u hu=>by rw [List.mem_singleton.1 hu]; exact hr.upd
  refine c0.use (l:=[r.upd]) (hS.o.jf.ch' s23.ch) (hS.p.jf.ch' s23.ch) (bj.own (i:=0) s23 rfl).is hS.oko hS.okp o1 (by simp; omega) hS.lp (fun j u hj=>?_) fun z G25 t25=>?_
  ·cases j with
   | zero=>
    simp at hj
    subst hj
    simpa using hn
   | succ j=>simp at hj
  obtain ⟨F25,o25,c25⟩:=t25.out
  have s25:=s23.new o25 c25
  have lz:=(bj.own (i:=0) s25 rfl).leaf
  refine ae (tv0 _ _) ?_
  refine ae (tv1 _ _) ?_
  refine St.sE (i:=3) s25 rfl ho l1 lz fun G28 s28=>?_
  have l2:bz z /\ bz wp /\ bz wh:=⟨lz,l1.2⟩
  refine ae (St.ld (ar.own (i:=3) s28 rfl) ho l2) ?_
  refine St.st (i:=7) s28 rfl StM.bD lv0 ho l2 fun G30 s30=>?_
  refine ae (St.ld (ar.own (i:=7) s30 rfl) ho l2) ?_
  exact hQ z wp wh G30 ((((s30.front (i:=0) rfl).front (i:=2) rfl).front (i:=4) rfl).take 3)
 ·rw [bC,aa,aE]
  refine ⟨fun hk=>?_,fun hk2=>?_⟩
  ·obtain ⟨_,h1,h2,h3,h4,h5,rfl⟩:r.kind = 2 /\ f.s.rem = f.s.ack /\ r.index = f.s.rem + 1 /\ r.cntB = f.s.atB /\ f.s.sgnA ≤ r.cntA /\ r.cntA ≤ (f.o.length:Nat) /\ f' = xn f r:=by
    rcases h with ⟨h,_⟩ | h | ⟨h,_⟩ | ⟨h,_⟩
    ·omega
    ·exact h
    all_goals omega
   have hri:=hr.index
   refine ae (Rc.mS hr3 hr hv) ?_
   refine St.KE (i:=1) s16 rfl ho l1 _ fun G34 s34=>?_
   have o34:({ f.s with rem:=r.index }:StM).ok:=⟨ho.side,ho.cap,ho.bo,ho.bp,ho.loc,hr.index,ho.ack,ho.atA,ho.atB,ho.sgnA,ho.sgnB,ho.heldA,ho.heldB,ho.ptsA,ho.ptsB,ho.sig,ho.failed,ho.closed⟩
   refine ae (Rc.KM (ar.own (i:=6) s34 rfl) hr hv) ?_
   refine St.KD (s:={ f.s with rem:=r.index }) (i:=1) s34 rfl o34 l1 _ _ fun G36 s36=>?_
   have o36:({ f.s with rem:=r.index,sgnA:=r.cntA,sgnB:=r.cntB }:StM).ok:=⟨ho.side,ho.cap,ho.bo,ho.bp,ho.loc,hr.index,ho.ack,ho.atA,ho.atB,hr.cntA,hr.cntB,ho.heldA,ho.heldB,ho.ptsA,ho.ptsB,ho.sig,ho.failed,ho.closed⟩
   refine St.Ae (s:={ f.s with rem:=r.index,sgnA:=r.cntA,sgnB:=r.cntB }) (i:=1) s36 rfl o36 l1 _ fun G37 s37=>?_
   have o37:(xn f r).s.ok:=⟨ho.side,ho.cap,ho.bo,ho.bp,ho.loc,hr.index,ho.ack,ho.atA,ho.atB,hr.cntA,hr.cntB,ho.heldA,ho.heldB,ho.ptsA,ho.ptsB,ho.sig,ho.failed,ho.closed⟩
   have s37:Sp [] G [bj 36 wp (f.p.map aK.av),ar i10 ((xn f r).s.av wo0 wp wh),bj 34 wh (f.h.map cB.av),bj 36 wp0 ((dP f.p f.s.atB).map aK.av),bj 36 wo0 (f.o.map aK.av),ar i5 (StM.zero.av .nilSlice .nilSlice .nilSlice),ar i3 (r.av v),ar i1 (f.s.av vo vp vh)] G37:=s37
   have hg:=ar.own (i:=7) s37 rfl
   have hr3:=ar.own (i:=6) s37 rfl
   intro J64
   refine ae (St.ld (ar.own (i:=1) s37 rfl) o37 l1) ?_
   refine ae (St.kq hg ho lS) ?_
   refine ae (St.mi hg ho lS) ?_
   refine ae (nk h1) ?_
   rw [aX]
   refine ae (Rc.mS hr3 hr hv) ?_
   refine ae (St.kq hg ho lS) ?_
   rw [wi,i64_in (by have:=hri.1; omega) (by have:=hri.2; omega),aa]
   refine ae (nk h2) ?_
   rw [aX]
   refine ae (Rc.JM hr3 hr hv) ?_
   refine ae (St.rf hg ho lS) ?_
   refine ae (nk h3) ?_
   rw [aX]
   refine ae (Rc.BN hr3 hr hv) ?_
   refine ae (St.BK hg ho lS) ?_
   rw [gq,aa,decide_eq_true h4,aX]
   refine ae (Rc.BN hr3 hr hv) ?_
   refine ae (St.gG hg ho lS) ?_
   refine ae (fy (hS.o.jf.ch' s37.ch)) ?_
   rw [jl,aa,decide_eq_true h5]
   refine St.st (i:=5) s37 rfl StM.bD lv0 o37 l1 fun G56 s56=>?_
   refine ⟨⟨St.gG (ar.own (i:=7) s56 rfl) ho lS,Rc.BN (ar.own (i:=6) s56 rfl) hr hv,trivial⟩,?_⟩
   simp -zeta only [J64]
   refine ae (St.ld (ar.own (i:=5) s56 rfl) o37 l1) ?_
   exact hQ wo0 wp wh G56 ((((s56.front (i:=4) rfl).front (i:=1) rfl).front (i:=3) rfl).take 3)
  ·rw [bC,aa,aE]
   refine ⟨fun hk=>?_,fun hk3=>?_⟩
   ·obtain ⟨_,h1,h2,rfl⟩:r.kind = 3 /\ (∀ (j:Nat) (u:aK),l[j]? = some u -> jW (dP f.p f.s.atB ++ l.take j) f.o u = 0) /\ r.index = f.s.loc + 1 /\ f' = wB f r l:=by
     rcases h with ⟨h,_⟩ | ⟨h,_⟩ | h | ⟨h,_⟩
     ·omega
     ·omega
     ·exact h
     ·omega
    have hri:=hr.index
    have hfl:=Mf f.p f.s.atB
    refine ae (St.iP hg ho lS) ?_
    refine ae (St.rf hg ho lS) ?_
    refine ae (St.gG hg ho lS) ?_
    refine ae (Rc.FB hr3 hr hv) ?_
    refine bB.use (hS.p.mv s16.ch) hS.lp fun w hw=>?_
    refine ⟨⟨Rc.FB hr3 hr hv,St.gG hg ho lS,trivial⟩,?_⟩
    refine c0.use hw.jf (hS.o.jf.ch' s16.ch) (hl.ch' s16.ch) (o8 hS.okp) hS.oko okl (by omega) hS.lo h1 fun z G73 t73=>?_
    obtain ⟨F73,o73,c73⟩:=t73.out
    have s73:=s16.new o73 c73
    have lz:=(bj.own (i:=0) s73 rfl).leaf
    refine ae (tv0 _ _) ?_
    refine ae (tv1 _ _) ?_
    refine St.uz (i:=2) s73 rfl ho l1 lz fun G76 s76=>?_
    have l2:bz wo0 /\ bz z /\ bz wh:=⟨l1.1,lz,l1.2.2⟩
    refine ae (Rc.mS (ar.own (i:=7) s76 rfl) hr hv) ?_
    refine St.KF (i:=2) s76 rfl ho l2 _ fun G78 s78=>?_
    have o78:({ f.s with loc:=r.index }:StM).ok:=⟨ho.side,ho.cap,ho.bo,ho.bp,hr.index,ho.rem,ho.ack,ho.atA,ho.atB,ho.sgnA,ho.sgnB,ho.heldA,ho.heldB,ho.ptsA,ho.ptsB,ho.sig,ho.failed,ho.closed⟩
    refine ae (St.r7 (ar.own (i:=8) s78 rfl) ho lS) ?_
    refine ae (fy (bj.own (i:=0) s78 rfl).is) ?_
    refine ae (v:=bR f.s.heldA ((dP f.p f.s.atB ++ l).length:Nat)) rfl ?_
    refine St.K7 (s:={ f.s with loc:=r.index }) (i:=2) s78 rfl o78 l2 _ _ fun G82 s82=>?_
    have ib:I64 ((dP f.p f.s.atB ++ l).length:Nat):=gQ _ (by omega) (by rw [List.length_append]; omega)
    have o82:({ f.s with loc:=r.index,atA:=f.s.heldA,atB:=((dP f.p f.s.atB ++ l).length:Nat) }:StM).ok:=⟨ho.side,ho.cap,ho.bo,ho.bp,hr.index,ho.rem,ho.ack,ho.heldA,ib,ho.sgnA,ho.sgnB,ho.heldA,ho.heldB,ho.ptsA,ho.ptsB,ho.sig,ho.failed,ho.closed⟩
    refine ae (Rc.Is (ar.own (i:=7) s82 rfl) hr hv) ?_
    refine St.HN (s:={ f.s with loc:=r.index,atA:=f.s.heldA,atB:=((dP f.p f.s.atB ++ l).length:Nat) }) (i:=2) s82 rfl o82 l2 hr.sig fun G84 s84=>?_
    have o84:({ f.s with loc:=r.index,atA:=f.s.heldA,atB:=((dP f.p f.s.atB ++ l).length:Nat),sig:=r.sig }:StM).ok:=⟨ho.side,ho.cap,ho.bo,ho.bp,hr.index,ho.rem,ho.ack,ho.heldA,ib,ho.sgnA,ho.sgnB,ho.heldA,ho.heldB,ho.ptsA,ho.ptsB,hr.sig,ho.failed,ho.closed⟩
    refine St.Ae (s:={ f.s with loc:=r.index,atA:=f.s.heldA,atB:=((dP f.p f.s.atB ++ l).length:Nat),sig:=r.sig }) (i:=2) s84 rfl o84 l2 _ fun G85 s85=>?_
    have o85:(wB f r l).s.ok:=⟨ho.side,ho.cap,ho.bo,ho.bp,hr.index,ho.rem,ho.ack,ho.heldA,ib,ho.sgnA,ho.sgnB,ho.heldA,ho.heldB,ho.ptsA,ho.ptsB,hr.sig,ho.failed,ho.closed⟩
    have s85:Sp [] G [bj 36 z ((dP f.p f.s.atB ++ l).map aK.av),bj 36 wp (f.p.map aK.av),ar i10 ((wB f r l).s.av wo0 z wh),bj 34 wh (f.h.map cB.av),bj 36 wp0 ((dP f.p f.s.atB).map aK.av),bj 36 wo0 (f.o.map aK.av),ar i5 (StM.zero.av .nilSlice .nilSlice .nilSlice),ar i3 (r.av v),ar i1 (f.s.av vo vp vh)] G85:=s85
    refine ae (St.ld (ar.own (i:=2) s85 rfl) o85 l2) ?_
    rw [aX]
    refine ae (Rc.mS (ar.own (i:=7) s85 rfl) hr hv) ?_
    refine ae (St.pq (ar.own (i:=8) s85 rfl) ho lS) ?_
    rw [wi,i64_in (by have:=hri.1; omega) (by have:=hri.2; omega),aa]
    refine ae (nk h2) ?_
    refine St.st (i:=6) s85 rfl StM.bD lv0 o85 l2 fun G91 s91=>?_
    refine ⟨⟨St.pq (ar.own (i:=8) s91 rfl) ho lS,Rc.mS (ar.own (i:=7) s91 rfl) hr hv,trivial⟩,?_⟩
    refine ae (St.ld (ar.own (i:=6) s91 rfl) o85 l2) ?_
    exact hQ wo0 z wh G91 ((((s91.front (i:=5) rfl).front (i:=1) rfl).front (i:=4) rfl).take 3)
   ·rw [bC,aa,aE]
    refine ⟨fun hk=>?_,fun hk4=>?_⟩
    ·obtain ⟨_,h1,h2,h3,rfl⟩:r.kind = 4 /\ (uG f.h r.index r.secret).2 = 0 /\ f.s.rem = f.s.ack + 1 /\ r.index = f.s.ack /\ f' = tD f r:=by
      rcases h with ⟨h,_⟩ | ⟨h,_⟩ | ⟨h,_⟩ | h
      ·omega
      ·omega
      ·omega
      ·exact h
     have hrm:=ho.rem
     refine ae (St.r6 hg ho lS) ?_
     refine ae (Rc.mS hr3 hr hv) ?_
     refine ae (Rc.Gz hr3 hr hv) ?_
     refine eH.use (hS.h.jf.ch' s16.ch) hS.okh (by omega) hr.secret fun z G103 t103=>?_
     obtain ⟨F103,o103,c103⟩:=t103.out
     have s103:=s16.new o103 c103
     have lz:=(bj.own (i:=0) s103 rfl).leaf
     refine ae (tv0 _ _) ?_
     refine ae (tv1 _ _) ?_
     rw [h1]
     refine St.yv (i:=2) s103 rfl ho l1 lz fun G106 s106=>?_
     have l2:bz wo0 /\ bz wp /\ bz z:=⟨l1.1,l1.2.1,lz⟩
     refine ae (St.mi (ar.own (i:=8) s106 rfl) ho lS) ?_
     have ia:I64 (f.s.ack + 1):=by rw [<- h2]; exact hrm
     rw [wi,i64_in ia.1 ia.2,aa]
     refine St.KG (i:=2) s106 rfl ho l2 _ fun G109 s109=>?_
     have o109:({ f.s with ack:=f.s.ack + 1 }:StM).ok:=⟨ho.side,ho.cap,ho.bo,ho.bp,ho.loc,ho.rem,ia,ho.atA,ho.atB,ho.sgnA,ho.sgnB,ho.heldA,ho.heldB,ho.ptsA,ho.ptsB,ho.sig,ho.failed,ho.closed⟩
     refine ae (St.BL (ar.own (i:=8) s109 rfl) ho lS) ?_
     refine St.Jw (s:={ f.s with ack:=f.s.ack + 1 }) (i:=2) s109 rfl o109 l2 _ _ fun G111 s111=>?_
     have o111:({ f.s with ack:=f.s.ack + 1,heldA:=f.s.sgnA,heldB:=f.s.sgnB }:StM).ok:=⟨ho.side,ho.cap,ho.bo,ho.bp,ho.loc,ho.rem,ia,ho.atA,ho.atB,ho.sgnA,ho.sgnB,ho.sgnA,ho.sgnB,ho.ptsA,ho.ptsB,ho.sig,ho.failed,ho.closed⟩
     refine ae (v:=.ptr i1 [13,1] 48) rfl ?_
     refine ae (St.xR (ar.own (i:=8) s111 rfl) ho lS) ?_
     refine ae (Rc.Iu (ar.own (i:=7) s111 rfl) hr hv) ?_
     refine ae (zv ho.ptsB hr.point) ?_
     refine St.HO (s:={ f.s with ack:=f.s.ack + 1,heldA:=f.s.sgnA,heldB:=f.s.sgnB }) (i:=2) s111 rfl o111 l2 ho.ptsB hr.point fun G116 s116=>?_
     have o116:(tD f r).s.ok:=⟨ho.side,ho.cap,ho.bo,ho.bp,ho.loc,ho.rem,ia,ho.atA,ho.atB,ho.sgnA,ho.sgnB,ho.sgnA,ho.sgnB,ho.ptsB,hr.point,ho.sig,ho.failed,ho.closed⟩
     have s116:Sp [] G [bj 34 z ((uG f.h r.index r.secret).1.map cB.av),bj 36 wp (f.p.map aK.av),ar i10 ((tD f r).s.av wo0 wp z),bj 34 wh (f.h.map cB.av),bj 36 wp0 ((dP f.p f.s.atB).map aK.av),bj 36 wo0 (f.o.map aK.av),ar i5 (StM.zero.av .nilSlice .nilSlice .nilSlice),ar i3 (r.av v),ar i1 (f.s.av vo vp vh)] G116:=s116
     refine ae (St.ld (ar.own (i:=2) s116 rfl) o116 l2) ?_
     refine ae (nk rfl) ?_
     rw [aX]
     refine ae (St.kq (ar.own (i:=8) s116 rfl) ho lS) ?_
     refine ae (St.mi (ar.own (i:=8) s116 rfl) ho lS) ?_
     rw [wi,i64_in ia.1 ia.2,aa]
     refine ae (nk h2) ?_
     rw [aX]
     refine ae (Rc.mS (ar.own (i:=7) s116 rfl) hr hv) ?_
     refine ae (St.mi (ar.own (i:=8) s116 rfl) ho lS) ?_
     refine ae (nk h3) ?_
     refine St.st (i:=6) s116 rfl StM.bD lv0 o116 l2 fun G126 s126=>?_
     refine ⟨⟨St.mi (ar.own (i:=8) s126 rfl) ho lS,Rc.mS (ar.own (i:=7) s126 rfl) hr hv,trivial⟩,?_⟩
     refine ae (St.ld (ar.own (i:=6) s126 rfl) o116 l2) ?_
     exact hQ wo0 wp z G126 ((((s126.front (i:=5) rfl).front (i:=2) rfl).front (i:=2) rfl).take 3)
    ·exfalso
     rcases h with ⟨h,_⟩ | ⟨h,_⟩ | ⟨h,_⟩ | ⟨h,_⟩
     ·exact hk1 h
     ·exact hk2 h
     ·exact hk3 h
     ·exact hk4 h
end
end Go.Esc.M
