import Derived.Test.YtkojimdacnohpaaGreatDoorLDc
import Derived.Test.YtkojimdacnohpaaGreatDoorLHb
set_option maxHeartbeats 2000000
set_option linter.unusedSimpArgs false
set_option linter.unusedVariables false
set_option maxRecDepth 20000
namespace Go.Esc
open Go Go.RowKit
section
variable {T:Tbl} {ts e:TypeId} {si ie:TI} (ht:T ts = some si) (hd:si.desc = .slice e) (he:T e = some ie) (hz:sz ie.zero = ie.size)
variable {F0:List AId} {G0 G:ah} {ps:List LP} {K:ag -> ah -> Prop}
include ht hd he hz in
theorem FR {a b:ag} (hs:Sp F0 G0 ps G) (ha:sz a = ie.size) (hb:sz b = ie.size) (hie:2 * ie.size ≤ 16777216) (hK:∀ s' G',Sp F0 G0 (bj ie.size s' [a,b] :: ps) G' -> K s' G'):bh T ts 2 [(0,a),(1,b)] G K:=by
 unfold bh
 have hf:Md (fun k=>some (k * ie.size,ie.size)) (List.replicate 2 ie.zero) [(0,a),(1,b)] = some [a,b]:=by simp [Md,hz,ha,hb,szs,List.replicate]
 simp only [ht,hd,he,hf]
 refine ⟨by omega,fun id hfr=>hK _ _ (hs.new (p:=bj ie.size _ [a,b]) ⟨.inr ⟨id,2,2,[a,b],rfl,ah.fc _ _ _,rfl,Nat.le_refl _,by simp [Esc.uni,ha,hb],rfl⟩,rfl⟩ ?_)⟩
 simpa [rowOf] using Ch.new hfr
end
end Go.Esc
namespace Go.Esc.M
open Go Go.Esc
theorem Cq {a b:List UInt8} (ha:a.length = 32) (hb:b.length = 32):mN T 8 aj (.agg (a.map u8v)) (.agg (b.map u8v)) = some (decide (a = b)):=by
 rw [yf (i:=fE) cd rfl dz,BT (ie:=fY) dz rfl rfl 6 32 a b ha hb]
def jT (b:Bool) (l:List ba):List ba:=(l.filter (fun p=>p.ours != b)).map (fun p=>{ p with ours:=b })
def oN (l:List ba):List ba:=jT true l ++ jT false l
theorem ym {b:Bool} {l:List ba} {j:Nat} {p:ba} (h:l[j]? = some p):jT b (l.take (j + 1)) = jT b (l.take j) ++ (if p.ours = b then [] else [{ p with ours:=b }]):=by
 rw [List.take_add_one,h]
 unfold jT
 rw [List.filter_append,List.map_append]
 congr 1
 cases ho:p.ours <;> cases b <;> simp [ho]
theorem uQ (b:Bool) (l:List ba):(jT b l).length ≤ l.length:=by
 rw [jT,List.length_map]; exact List.length_filter_le _ _
theorem CA (b:Bool) (l:List ba) (j:Nat):(jT b (l.take j)).length ≤ (jT b l).length:=by
 rw [jT,jT,List.length_map,List.length_map]
 exact ((List.take_sublist j l).filter _).length_le
theorem ba.ok.side {p:ba} (h:p.ok) (b:Bool):({ p with ours:=b }:ba).ok:=⟨h.id,h.amount,h.hash⟩
theorem Cz {b:Bool} {l:List ba} (h:∀ p ∈ l,p.ok):∀ p ∈ jT b l,p.ok:=by
 intro p hp
 rw [jT] at hp
 obtain ⟨q,hq,rfl⟩:=List.mem_map.1 hp
 exact (h q (List.mem_filter.1 hq).1).side b
theorem yo {l:List ba} (h:∀ p ∈ l,p.ok):∀ p ∈ oN l,p.ok:=by
 intro p hp
 rcases List.mem_append.1 hp with hp | hp
 ·exact Cz h p hp
 ·exact Cz h p hp
theorem oS (l:List ba):(oN l).length = l.length:=by
 induction l with
 | nil=>rfl
 | cons p l ih=>
  have:∀ b,(jT b (p :: l)).length = (jT b l).length + (if p.ours = b then 0 else 1):=by
   intro b
   unfold jT
   cases ho:p.ours <;> cases b <;> simp [ho]
  rw [oN,List.length_append] at ih ⊢
  rw [this,this,List.length_cons]
  cases ho:p.ours <;> simp [ho] <;> omega
section
variable {F0:List AId} {G0 G:ah} {ps:List LP} {Q:ag -> ah -> Prop}
theorem CU {i:Nat} {id:AId} {p:ba} (hs:Sp F0 G0 ps G) (hi:ps[i]? = some (ar id p.av)) (b:Bool) {K:ah -> Prop} (hK:∀ G',Sp F0 G0 (ps.set i (ar id ({ p with ours:=b }:ba).av)) G' -> K G'):wg (ax T G ey (.ptr id [0] 0) (.bool b)) K:=by
 refine fK (km (c:=.bool b) (u:=.bool p.ours) (ar.own hs hi) rfl rfl kC rfl rfl rfl) ?_
 exact hK _ (Sp.setRow hs hi _)
theorem gU.use {o q:Int} {v:ag} {l:List ba} (hl:fV 35 G v (l.map ba.av)) (hok:∀ p ∈ l,p.ok) (hlen:l.length * 56 ≤ 140737488355328) (hQ:∀ s G',Sp [] G [bj 35 s ((oN l).map ba.av)] G' -> Q (gn q o s) G') :
  al P gU.n [gn o q v] G Q:=by
 have hv:=sG hl
 refine gU.sound ?_
 unfold gU.S
 rw [Jh]
 intro i1 f1
 have s1:=(Sp.nil G).row f1 (gn o q v)
 intro i3 f3
 have s3:=s1.row f3 (gn 0 0 .nilSlice)
 refine ae (ig (i:=1) s3 rfl hv).2.1 ?_
 refine ae (ig (i:=1) s3 rfl hv).1 ?_
 refine ae (v:=gn q o .nilSlice) rfl ?_
 intro i8 f8
 have s8:=s3.row f8 (gn 0 0 .nilSlice)
 refine my (i:=0) s8 rfl rfl qp fun G10 s10=>?_
 refine FR (T:=T) (ts:=nm) (e:=ey) (si:=nT) (ie:=sB) wE rfl kC rfl s10 rfl rfl (by decide) fun v11 G12 s12=>?_
 have s12:Sp [] G [bj 1 v11 [.bool true,.bool false],ar i8 (gn q o .nilSlice),ar i3 (gn 0 0 .nilSlice),ar i1 (gn o q v)] G12:=s12
 have bl:∀ {G':ah},Own 1 G' v11 [.bool true,.bool false] -> gF T G' nm v11 = some (.int .i64 2):=fun h=>h.is.len (i:=nT) wE rfl
 refine ae (bl (bj.own (i:=0) s12 rfl)) ?_
 have s12:=s12.nd 35
 have ln:∀ {G':ah},Ch [] G [] G' -> gF T G' aq v = some (.int .i64 (l.length:Nat)):=fun c=>by
  rw [(hl.ch' c).len (i:=bU) cq rfl,List.length_map]
 intro R14 hR14
 have inner:∀ (side:Bool) (acc:List ba) (y:Int) (G':ah) (s:ag),acc.length + (jT side l).length ≤ l.length ->
   Sp [] G [bj 35 s (acc.map ba.av),bj 1 v11 [.bool true,.bool false],ar i8 (gn q o s),ar i3 (gn 0 0 .nilSlice),ar i1 (gn o q v)] G' ->
   (∀ (G':ah) (s:ag),Sp [] G [bj 35 s ((acc ++ jT side l).map ba.av),bj 1 v11 [.bool true,.bool false],ar i8 (gn q o s),ar i3 (gn 0 0 .nilSlice),ar i1 (gn o q v)] G' -> R14 [.ptr i1 [] 0,.ptr i3 [] 0,.ptr i8 [] 0,v11,.int .i64 2,.int .i64 (IntKind.i64.wrap (y + 1))] G') ->
   wv (some (.bool side)) fun v24=>wv (bx T bc (.ptr i1 [] 0) 2) fun v25=>wv (lq T G' aq v25) fun v26=>wv (gF T G' aq v26) fun v27=>∀ R28:List ag -> ah -> Prop,
 (∀ (x30 x31 x32 x33 x34 x35 x36 x37 x38 x39:ag) (G29:ah),(wv (aw T .lss au x39 x38) fun v40=>brB (some v40)
 (wv (aL T aq x37 x39) fun v41=>wv (lq T G29 aU v41) fun v42=>br G29 (.own (iX)) fun i43 G44=>wg (ax T G44 aU (.ptr i43 [] 0) v42) fun G45=>wv (lq T G45 ey (.ptr i43 [0] 0)) fun v46=>wv (aw T .neq ey v46 x33) fun v47=>brB (some v47)
 (wg (ax T G45 ey (.ptr i43 [0] 0) x33) fun G48=>wv (bx T bc x32 2) fun v49=>wv (lq T G48 aq v49) fun v50=>wv (lq T G48 aU (.ptr i43 [] 0)) fun v51=>bh T aq 1 [(0,v51)] G48 fun v52 G53=>cc T G53 aq aq v50 v52 fun v54 G55=>wv (bx T bc x32 2) fun v56=>wg (ax T G55 aq v56 v54) fun G57=>wv (aw T .add au x39 (.int .i64 1)) fun v61=>R28 [x30,x31,x32,x33,x34,x35,x36,x37,x38,v61] G57)
 (wv (aw T .add au x39 (.int .i64 1)) fun v62=>R28 [x30,x31,x32,x33,x34,x35,x36,x37,x38,v62] G45))
 (wv (aw T .add au x36 (.int .i64 1)) fun v63=>R14 [x30,x31,x32,x34,x35,v63] G29)) -> R28 [x30,x31,x32,x33,x34,x35,x36,x37,x38,x39] G29) ->
 R28 [.ptr i1 [] 0,.ptr i3 [] 0,.ptr i8 [] 0,v24,v11,.int .i64 2,.int .i64 y,v26,v27,.int .i64 0] G':=by
  intro side acc y G' s hacc hs hnext
  rw [aa]
  show wv (lq T G' aq (.ptr i1 [2] 2)) _
  refine ae (ig (i:=4) hs rfl hv).2.2.1 ?_
  refine ae (ln hs.ch) ?_
  intro R28 hR28
  have lp:∀ (n x:Nat) (s:ag) (G':ah),l.length - x = n -> x ≤ l.length -> Sp [] G [bj 35 s ((acc ++ jT side (l.take x)).map ba.av),bj 1 v11 [.bool true,.bool false],ar i8 (gn q o s),ar i3 (gn 0 0 .nilSlice),ar i1 (gn o q v)] G' ->
    R28 [.ptr i1 [] 0,.ptr i3 [] 0,.ptr i8 [] 0,.bool side,v11,.int .i64 2,.int .i64 y,v,.int .i64 (l.length:Nat),.int .i64 (x:Int)] G':=by
   intro n
   induction n with
   | zero=>
    intro x s G' hn hx hs
    have:x = l.length:=by omega
    subst this
    rw [List.take_length] at hs
    refine hR28 _ _ _ _ _ _ _ _ _ _ _ ?_
    rw [aH,aa,aE]
    refine ⟨fun h=>absurd h (by omega),fun _=>?_⟩
    rw [wi,aa]
    exact hnext _ _ hs
   | succ n ih=>
    intro x s G' hn hx hs
    obtain ⟨p,hp⟩:∃ p,l[x]? = some p:=⟨_,List.getElem?_eq_getElem (by omega)⟩
    have hpo:=hok p (List.mem_of_getElem? hp)
    obtain ⟨a,ha,hla⟩:=tU (hl.ch' hs.ch) hp
    have htt:=ym (b:=side) hp
    refine hR28 _ _ _ _ _ _ _ _ _ _ _ ?_
    rw [aH,aa,aE]
    refine ⟨fun _=>?_,fun h=>absurd (by omega) h⟩
    rw [ha,aa,hla,aa]
    refine jQ hs fk (ba.fits hpo) (by rw [ba.sz hpo]; rfl) (ba.okv p) fun i43 G45 s45=>?_
    refine ae (ba.fld hpo (ar.own (i:=0) s45 rfl)).1 ?_
    rw [Gb kC rfl,aa,iE]
    refine ⟨fun h=>?_,fun h=>?_⟩
    ·have hne:p.ours ≠ side:=by simpa using h
     rw [if_neg hne] at htt
     refine CU (i:=0) s45 rfl side fun G48 s48=>?_
     have hpo2:=hpo.side side
     have ho0:=bj.own (i:=1) s48 rfl
     show wv (lq T G48 aq (.ptr i8 [2] 2)) _
     refine ae (ig (i:=3) s48 rfl ho0.leaf).2.2.1 ?_
     refine ae (cJ fk (ar.own (i:=0) s48 rfl) (ba.fits hpo2)) ?_
     refine uY (T:=T) (ts:=aq) (e:=aU) (si:=bU) (ie:=eB) (i:=1) cq rfl fk rfl (by decide) s48 rfl (ba.sz hpo2) (ba.okv _) (by decide) ?_ fun s57 G58 s58=>?_
     ·have:eB.bytes = 56:=rfl
      have h2:=CA side l (x + 1)
      rw [htt,List.length_append,List.length_singleton] at h2
      rw [List.length_map,this,List.length_append]
      omega
     show wg (ax T G58 aq (.ptr i8 [2] 2) s57) _
     refine FA (i:=3) s58 rfl ho0.leaf.1 (bj.own (i:=1) s58 rfl).leaf fun G60 s60=>?_
     rw [wi,aa,i64_in (by omega) (by omega)]
     refine ih (x + 1) s57 G60 (by omega) (by omega) ?_
     rw [htt,<- List.append_assoc,List.map_append]
     exact s60.erase 0
    ·have hne:p.ours = side:=by simpa using h
     rw [if_pos hne,List.append_nil] at htt
     rw [wi,aa,i64_in (by omega) (by omega)]
     refine ih (x + 1) s G45 (by omega) (by omega) ?_
     rw [htt]
     exact s45.erase 0
  refine lp _ 0 s G' rfl (by omega) ?_
  simpa [jT] using hs
 have at_:∀ {G':ah} {j:Nat} {b:Bool},Own 1 G' v11 [.bool true,.bool false] -> [ag.bool true,.bool false][j]? = some (.bool b) -> ∃ a,aL T nm v11 (.int .i64 (j:Nat)) = some a /\ lq T G' ey a = some (.bool b):=fun h hj=>
  h.is.at_ (k:=.i64) (i:=nT) (ie:=sB) (T:=T) (t:=nm) (e:=ey) wE rfl kC hj rfl
 refine hR14 _ _ _ _ _ _ _ ?_
 rw [aH,aa,aE]
 refine ⟨fun _=>?_,fun h=>absurd (by decide) h⟩
 obtain ⟨a,ha,hla⟩:=at_ (j:=0) (bj.own (i:=1) s12 rfl) rfl
 refine ae ha ?_
 rw [hla]
 refine inner true [] 0 G12 .nilSlice (by simpa using uQ true l) s12 fun G' s hs=>?_
 refine hR14 _ _ _ _ _ _ _ ?_
 rw [aH,aa,aE]
 refine ⟨fun _=>?_,fun h=>absurd (by decide) h⟩
 obtain ⟨a,ha,hla⟩:=at_ (j:=1) (bj.own (i:=1) hs rfl) rfl
 refine ae ha ?_
 rw [hla]
 refine inner false ([] ++ jT true l) (IntKind.i64.wrap (0 + 1)) G' s (by have:=oS l; rw [oN,List.length_append] at this; simp; omega) hs fun G' s hs=>?_
 refine hR14 _ _ _ _ _ _ _ ?_
 rw [aH,aa,aE]
 refine ⟨fun h=>absurd h (by decide),fun _=>?_⟩
 have ho0:=bj.own (i:=0) hs rfl
 refine ae (ig (i:=2) hs rfl ho0.leaf).2.2.2 ?_
 refine my (i:=3) hs rfl rfl ho0.leaf fun G65 s65=>?_
 refine ae (ig (i:=3) s65 rfl ho0.leaf).2.2.2 ?_
 exact hQ s _ ((((s65.erase 1).erase 1).erase 1).erase 1)
theorem eQ.use {o q:Int} {v:ag} {l:List ba} (hl:fV 35 G v (l.map ba.av)) (hok:∀ p ∈ l,p.ok) (hlen:l.length * 56 ≤ 140737488355328) (hQ:∀ s G',Sp [] G [bj 35 s ((oN l).map ba.av)] G' -> Q (gn q o s) G') :
  al P eQ.n [gn o q v] G Q:=by
 have hv:=sG hl
 refine eQ.sound ?_
 unfold eQ.S
 rw [Jh]
 intro i1 f1
 have s1:=(Sp.nil G).row f1 (gn o q v)
 intro i3 f3
 have s3:=s1.row f3 (gn 0 0 .nilSlice)
 refine ae (ig (i:=1) s3 rfl hv).2.1 ?_
 refine ae (ig (i:=1) s3 rfl hv).1 ?_
 refine ae (v:=gn q o .nilSlice) rfl ?_
 intro i8 f8
 have s8:=s3.row f8 (gn 0 0 .nilSlice)
 refine my (i:=0) s8 rfl rfl qp fun G10 s10=>?_
 have s10:Sp [] G [ar i8 (gn q o .nilSlice),ar i3 (gn 0 0 .nilSlice),ar i1 (gn o q v)] G10:=s10
 have s12:=s10.nd 35
 have ln:∀ {G':ah},Ch [] G [] G' -> gF T G' aq v = some (.int .i64 (l.length:Nat)):=fun c=>by
  rw [(hl.ch' c).len (i:=bU) cq rfl,List.length_map]
 intro R11 hR11
 have inner:∀ (side:Bool) (k:Int) (acc:List ba) (G':ah) (s:ag),acc.length + (jT side l).length ≤ l.length -> (∀ b:Bool,(b == decide (k = 1)) = (b != side)) ->
   Sp [] G [bj 35 s (acc.map ba.av),ar i8 (gn q o s),ar i3 (gn 0 0 .nilSlice),ar i1 (gn o q v)] G' ->
   (∀ (G':ah) (s:ag),Sp [] G [bj 35 s ((acc ++ jT side l).map ba.av),ar i8 (gn q o s),ar i3 (gn 0 0 .nilSlice),ar i1 (gn o q v)] G' -> R11 [.ptr i1 [] 0,.ptr i3 [] 0,.ptr i8 [] 0,.int .i64 (IntKind.i64.wrap (k + 1))] G') ->
   (∀ R18:List ag -> ah -> Prop,
 (∀ (x20 x21 x22 x23 x24:ag) (G19:ah),(wv (bx T bc x20 2) fun v25=>wv (lq T G19 aq v25) fun v26=>wv (gF T G19 aq v26) fun v27=>wv (aw T .lss au x24 v27) fun v28=>brB (some v28)
 (wv (bx T bc x20 2) fun v29=>wv (lq T G19 aq v29) fun v30=>wv (aL T aq v30 x24) fun v31=>wv (lq T G19 aU v31) fun v32=>br G19 (.own (iX)) fun i33 G34=>wg (ax T G34 aU (.ptr i33 [] 0) v32) fun G35=>wv (lq T G35 ey (.ptr i33 [0] 0)) fun v36=>wv (aw T .eql au x23 (.int .i64 1)) fun v37=>wv (aw T .eql ey v36 v37) fun v38=>brB (some v38)
 (wv (lq T G35 ey (.ptr i33 [0] 0)) fun v39=>wv (vun .not v39) fun v40=>wg (ax T G35 ey (.ptr i33 [0] 0) v40) fun G41=>wv (bx T bc x22 2) fun v42=>wv (lq T G41 aq v42) fun v43=>wv (lq T G41 aU (.ptr i33 [] 0)) fun v44=>bh T aq 1 [(0,v44)] G41 fun v45 G46=>cc T G46 aq aq v43 v45 fun v47 G48=>wv (bx T bc x22 2) fun v49=>wg (ax T G48 aq v49 v47) fun G50=>wv (aw T .add au x24 (.int .i64 1)) fun v54=>R18 [x20,x21,x22,x23,v54] G50)
 (wv (aw T .add au x24 (.int .i64 1)) fun v55=>R18 [x20,x21,x22,x23,v55] G35))
 (wv (aw T .add au x23 (.int .i64 1)) fun v56=>R11 [x20,x21,x22,v56] G19)) -> R18 [x20,x21,x22,x23,x24] G19) ->
 R18 [.ptr i1 [] 0,.ptr i3 [] 0,.ptr i8 [] 0,.int .i64 k,.int .i64 0] G'):=by
  intro side k acc G' s hacc hside hs hnext
  intro R28 hR28
  have lp:∀ (n x:Nat) (s:ag) (G':ah),l.length - x = n -> x ≤ l.length -> Sp [] G [bj 35 s ((acc ++ jT side (l.take x)).map ba.av),ar i8 (gn q o s),ar i3 (gn 0 0 .nilSlice),ar i1 (gn o q v)] G' ->
    R28 [.ptr i1 [] 0,.ptr i3 [] 0,.ptr i8 [] 0,.int .i64 k,.int .i64 (x:Int)] G':=by
   intro n
   induction n with
   | zero=>
    intro x s G' hn hx hs
    have:x = l.length:=by omega
    subst this
    rw [List.take_length] at hs
    refine hR28 _ _ _ _ _ _ ?_
    show wv (lq T G' aq (.ptr i1 [2] 2)) _
    refine ae (ig (i:=3) hs rfl hv).2.2.1 ?_
    refine ae (ln hs.ch) ?_
    rw [aH,aa,aE]
    refine ⟨fun h=>absurd h (by omega),fun _=>?_⟩
    rw [wi,aa]
    exact hnext _ _ hs
   | succ n ih=>
    intro x s G' hn hx hs
    obtain ⟨p,hp⟩:∃ p,l[x]? = some p:=⟨_,List.getElem?_eq_getElem (by omega)⟩
    have hpo:=hok p (List.mem_of_getElem? hp)
    obtain ⟨a,ha,hla⟩:=tU (hl.ch' hs.ch) hp
    have htt:=ym (b:=side) hp
    refine hR28 _ _ _ _ _ _ ?_
    show wv (lq T G' aq (.ptr i1 [2] 2)) _
    refine ae (ig (i:=3) hs rfl hv).2.2.1 ?_
    refine ae (ln hs.ch) ?_
    rw [aH,aa,aE]
    refine ⟨fun _=>?_,fun h=>absurd (by omega) h⟩
    show wv (lq T G' aq (.ptr i1 [2] 2)) _
    refine ae (ig (i:=3) hs rfl hv).2.2.1 ?_
    rw [ha,aa,hla,aa]
    refine jQ hs fk (ba.fits hpo) (by rw [ba.sz hpo]; rfl) (ba.okv p) fun i43 G45 s45=>?_
    refine ae (ba.fld hpo (ar.own (i:=0) s45 rfl)).1 ?_
    rw [bC,aa,vv kC rfl,aa,hside,iE]
    refine ⟨fun h=>?_,fun h=>?_⟩
    ·have hne:p.ours ≠ side:=by simpa using h
     have hnot:(!p.ours) = side:=(by decide:∀ a b:Bool,a ≠ b -> (!a) = b) _ _ hne
     rw [if_neg hne] at htt
     refine ae (ba.fld hpo (ar.own (i:=0) s45 rfl)).1 ?_
     rw [fN,aa,hnot]
     refine CU (i:=0) s45 rfl side fun G48 s48=>?_
     have hpo2:=hpo.side side
     have ho0:=bj.own (i:=1) s48 rfl
     show wv (lq T G48 aq (.ptr i8 [2] 2)) _
     refine ae (ig (i:=2) s48 rfl ho0.leaf).2.2.1 ?_
     refine ae (cJ fk (ar.own (i:=0) s48 rfl) (ba.fits hpo2)) ?_
     refine uY (T:=T) (ts:=aq) (e:=aU) (si:=bU) (ie:=eB) (i:=1) cq rfl fk rfl (by decide) s48 rfl (ba.sz hpo2) (ba.okv _) (by decide) ?_ fun s57 G58 s58=>?_
     ·have:eB.bytes = 56:=rfl
      have h2:=CA side l (x + 1)
      rw [htt,List.length_append,List.length_singleton] at h2
      rw [List.length_map,this,List.length_append]
      omega
     show wg (ax T G58 aq (.ptr i8 [2] 2) s57) _
     refine FA (i:=2) s58 rfl ho0.leaf.1 (bj.own (i:=1) s58 rfl).leaf fun G60 s60=>?_
     rw [wi,aa,i64_in (by omega) (by omega)]
     refine ih (x + 1) s57 G60 (by omega) (by omega) ?_
     rw [htt,<- List.append_assoc,List.map_append]
     exact s60.erase 0
    ·have hne:p.ours = side:=by simpa using h
     rw [if_pos hne,List.append_nil] at htt
     rw [wi,aa,i64_in (by omega) (by omega)]
     refine ih (x + 1) s G45 (by omega) (by omega) ?_
     rw [htt]
     exact s45.erase 0
  refine lp _ 0 s G' rfl (by omega) ?_
  simpa [jT] using hs
 refine hR11 _ _ _ _ _ ?_
 rw [aH,aa,aE]
 refine ⟨fun _=>?_,fun h=>absurd (by decide) h⟩
 refine inner true 0 [] G10 .nilSlice (by simpa using uQ true l) (by decide) s12 fun G' s hs=>?_
 refine hR11 _ _ _ _ _ ?_
 rw [aH,aa,aE]
 refine ⟨fun _=>?_,fun h=>absurd (by decide) h⟩
 refine inner false (IntKind.i64.wrap (0 + 1)) ([] ++ jT true l) G' s (by have:=oS l; rw [oN,List.length_append] at this; simp; omega) (by decide) hs fun G' s hs=>?_
 refine hR11 _ _ _ _ _ ?_
 rw [aH,aa,aE]
 refine ⟨fun h=>absurd h (by decide),fun _=>?_⟩
 have ho0:=bj.own (i:=0) hs rfl
 refine ae (ig (i:=1) hs rfl ho0.leaf).2.2.2 ?_
 refine my (i:=2) hs rfl rfl ho0.leaf fun G65 s65=>?_
 refine ae (ig (i:=2) s65 rfl ho0.leaf).2.2.2 ?_
 exact hQ s _ (((s65.erase 1).erase 1).erase 1)
end
end Go.Esc.M
namespace Go.Esc.M
open Go Go.Esc
def z32:List UInt8:=List.replicate 32 0
def p1:ba:=⟨true,3,9,z32⟩
def h7:List UInt8:=7 :: List.replicate 31 0
def c1:Com:=⟨1,5,h7,10,20,[p1]⟩
theorem idx {l:List UInt8} {j:Nat} {b:UInt8} (h:l[j]? = some b):oE T bH (.str l) (.int .i64 (j:Nat)) = some (.int .u8 (b.toNat:Nat)):=by
 obtain ⟨hj,rfl⟩:=List.getElem?_eq_some_iff.1 h
 exact DV hj
theorem AQ {o q:Int} {v:ag} (hv:sz v = 1):bk T bc [(0,.int .i64 o),(1,.int .i64 q),(2,v)] = some (gn o q v):=by
 have hf:∀ pl:Nat -> Option (Nat × Nat),pl 0 = some (0,1) -> pl 1 = some (1,1) -> pl 2 = some (2,1) -> Md pl [.int .i64 0,.int .i64 0,.nilSlice] [(0,.int .i64 o),(1,.int .i64 q),(2,v)] = some [.int .i64 o,.int .i64 q,v]:=by
  intro pl e0 e1 e2
  simp [Md,e0,e1,e2,sz,szs,hv]
 have ha:[(me,0),(me,1),(aq,2)].all (fun g=>(T g.1).isSome) = true:=rfl
 have hf:=hf (places T [(me,0),(me,1),(aq,2)]) rfl rfl rfl
 unfold bk
 have e1:kb.desc = .struct [(me,0),(me,1),(aq,2)]:=rfl
 have e2:kb.zero = .agg [.int .i64 0,.int .i64 0,.nilSlice]:=rfl
 simp only [mG,e1,e2,ha,if_true,hf]
 rfl
section
variable {F0:List AId} {G0 G:ah} {ps:List LP} {Q:ag -> ah -> Prop}
end
end Go.Esc.M
namespace Go.Esc.M
open Go Go.Esc
def mark:ba:=⟨false,-77,0,z32⟩
structure LR (w v:ag) (l:List ba):Prop where
 own:∀ {G:ah},Own 35 G v ((l ++ [mark]).map ba.av) -> Own 35 G w (l.map ba.av)
 back:fj T aq w none (some (.int .i64 ((l.length + 1:Nat):Int))) none = some v
section
variable {F0:List AId} {G0 G:ah} {ps:List LP} {Q:ag -> ah -> Prop}
end
end Go.Esc.M
namespace Go.Esc.M
open Go Go.Esc
def mk (n:Int) (p:ba):ba:=⟨p.ours,n + 1 + p.id % 4,1 + p.amount % 576460752303423488,p.hash⟩
section
variable {F0:List AId} {G0 G:ah} {ps:List LP} {Q:ag -> ah -> Prop}
end
end Go.Esc.M
namespace Go.Esc.M
open Go Go.Esc
def Asc:Int -> List ba -> Prop
 | _,[]=>True
 | n,p :: l=>n < p.id /\ 1 ≤ p.amount /\ p.amount ≤ ij /\ Asc p.id l
theorem Kc:∀ (l:List ba) (lt lf:Int) (ct:Nat) (r:List ba),Asc lt l -> (∀ p ∈ l,p.ours = true) -> ∃ lt',k6 lt lf ct 0 (l ++ r) = k6 lt' lf (ct + l.length) 0 r
 | [],lt,lf,ct,r,_,_=>⟨lt,rfl⟩
 | p :: l,lt,lf,ct,r,h,ho=>by
  obtain ⟨h1,h2,h3,h4⟩:=h
  have e:p.ours = true:=ho p (by simp)
  obtain ⟨lt',h5⟩:=Kc l p.id lf (ct + 1) r h4 fun q hq=>ho q (by simp [hq])
  refine ⟨lt',?_⟩
  rw [List.cons_append,k6,e,cond_true,if_neg (by omega),cond_true,h5,List.length_cons,show ct + 1 + l.length = ct + (l.length + 1) by omega]
theorem Kd:∀ (l:List ba) (lt lf:Int) (ct cf:Nat),Asc lf l -> (∀ p ∈ l,p.ours = false) -> k6 lt lf ct cf l = some (ct,cf + l.length)
 | [],lt,lf,ct,cf,_,_=>rfl
 | p :: l,lt,lf,ct,cf,h,ho=>by
  obtain ⟨h1,h2,h3,h4⟩:=h
  have e:p.ours = false:=ho p (by simp)
  rw [k6,e,cond_false,if_neg (by simp only [Bool.false_eq_true,false_and,or_false]; omega),cond_false,Kd l lt p.id ct (cf + 1) h4 fun q hq=>ho q (by simp [hq]),List.length_cons,show cf + 1 + l.length = cf + (l.length + 1) by omega]
def side (b:Bool) (l:List ba):List ba:=l.map (fun p=>{ p with ours:=b })
theorem uw (b:Bool) (l m:List ba):jT b (l ++ m) = jT b l ++ jT b m:=by simp [jT]
section
variable {F0:List AId} {G0 G:ah} {ps:List LP} {Q:ag -> ah -> Prop}
end
end Go.Esc.M
namespace Go.Esc.M
open Go Go.Esc
def m1:ba:=⟨false,-1,0,z32⟩
def m2:ba:=⟨false,-2,0,z32⟩
section
variable {F0:List AId} {G0 G:ah} {ps:List LP} {Q:ag -> ah -> Prop}
theorem JC {i j:Nat} {v:ag} {l:List ba} {p:ba} (hs:Sp F0 G0 ps G) (hi:ps[i]? = some (bj 35 v (l.map ba.av))) (hj:j < l.length) (hp:p.ok) :
  ∃ a,aL T aq v (.int .i64 (j:Int)) = some a /\ ∀ K:ah -> Prop,(∀ G',Sp F0 G0 (ps.set i (bj 35 v ((l.set j p).map ba.av))) G' -> K G') -> wg (ax T G aU a p.av) K:=by
 have ho:=bj.own hs hi
 rcases ho with ⟨_,h⟩ | ⟨id,len,cap,cs,rfl,hg,hc,hl,hu,he⟩
 ·rw [List.map_eq_nil_iff] at h
  rw [h] at hj
  simp at hj
 ·have hlen:len = l.length:=by
   have:=congrArg List.length he
   simp only [List.length_map,List.length_take] at this
   omega
  obtain ⟨a,ha,hst⟩:=JD (T:=T) (t:=aq) (e:=aU) (i:=bU) (ie:=eB) (cap:=cap) (k:=.i64) (c:=p.av) cq rfl fk hg hu (show j < len by omega) (by omega) (ba.sz hp) rfl (ba.okv p)
  refine ⟨a,ha,fun K hK=>fK hst (hK _ ?_)⟩
  refine hs.call hi (bj 35 (.slice id [] 0 0 len cap) ((l.set j p).map ba.av)) fun F h k=>?_
  obtain ⟨_,rfl⟩:=h
  refine k _ _ ⟨.inr ⟨id,len,cap,cs.set j p.av,rfl,ah.fc _ _ _,by rw [List.length_set]; exact hc,hl,Fb hu (ba.sz hp),?_⟩,rfl⟩ (tG hg (by simp))
  rw [List.map_set,he,List.take_set]
end
end Go.Esc.M
namespace Go.Esc.M
open Go Go.Esc
structure aK where
 kind:Int
 id:Int
 amount:Int
 hash:List UInt8
 note:List UInt8
 deriving DecidableEq
def h0:List UInt8:=List.replicate 32 0
theorem mL:h0.length = 32:=rfl
def aK.cs (u:aK):List ag:=[.int .i64 u.kind,.int .i64 u.id,.int .i64 u.amount,.agg (u.hash.map u8v),.str u.note]
def aK.av (u:aK):ag:=.agg u.cs
def aK.zero:aK:=⟨0,0,0,h0,[]⟩
structure aK.ok (u:aK):Prop where
 kind:I64 u.kind
 id:I64 u.id
 amount:I64 u.amount
 hash:u.hash.length = 32
 note:u.note.length ≤ 9223372036854775807
theorem aK.bD:aK.zero.ok:=⟨⟨by decide,by decide⟩,⟨by decide,by decide⟩,⟨by decide,by decide⟩,rfl,by decide⟩
theorem szh {h:List UInt8} (hl:h.length = 32):szs (h.map u8v) = 32:=by rw [gv (n:=1) (ji h)]; simp [hl]
theorem aK.sz {u:aK} (h:u.ok):Esc.sz u.av = 36:=by simp [aK.av,aK.cs,Esc.sz,szs,szh h.hash]
theorem aK.fits {u:aK} (h:u.ok):fa dA u.av = true:=by
 have h1:=aK.sz h
 have h2:u.av.isAgg = true:=rfl
 simp [fa,h1,h2,dA,j4.isAgg]
theorem aK.okv (u:aK):Esc.okv u.av = true:=by simp [aK.av,aK.cs,Esc.okv,kT,jx]
theorem gu {h:List UInt8} (hl:h.length = 32):fa fE (.agg (h.map u8v)) = true:=by simp [fa,Esc.sz,szh hl,fE,ag.isAgg,j4.isAgg]
section
variable {F0:List AId} {G0 G:ah} {ps:List LP} {i:Nat} {id:AId} {u:aK}
theorem dh (hs:Sp F0 G0 ps G) (hi:ps[i]? = some (ar id u.av)) (h:u.ok) :
  lq T G au (.ptr id [0] 0) = some (.int .i64 u.kind) /\ lq T G me (.ptr id [1] 1) = some (.int .i64 u.id) /\ lq T G me (.ptr id [2] 2) = some (.int .i64 u.amount) /\ lq T G aj (.ptr id [3] 3) = some (.agg (u.hash.map u8v)) /\ lq T G bH (.ptr id [4] 35) = some (.str u.note) /\ lq T G aI (.ptr id [] 0) = some u.av:=by
 have hg:=ar.own hs hi
 refine ⟨dQ (c:=.int .i64 u.kind) hg rfl rfl rfl hO rfl,dQ (c:=.int .i64 u.id) hg rfl rfl rfl cA rfl,dQ (c:=.int .i64 u.amount) hg rfl rfl rfl cA rfl,dQ (c:=.agg (u.hash.map u8v)) hg rfl rfl rfl cd (gu h.hash),dQ (c:=.str u.note) hg rfl ?_ rfl fZ rfl,cJ fC hg (aK.fits h)⟩
 simp [aK.cs,szs,Esc.sz,szh h.hash]
theorem kY {u':aK} (hs:Sp F0 G0 ps G) (hi:ps[i]? = some (ar id u.av)) (h:u.ok) (h':u'.ok) {K:ah -> Prop} (hK:∀ G',Sp F0 G0 (ps.set i (ar id u'.av)) G' -> K G'):wg (ax T G aI (.ptr id [] 0) u'.av) K:=by
 refine fK (il fC (ar.own hs hi) (aK.fits h') (by rw [aK.sz h,aK.sz h']) (aK.okv _)) ?_
 exact hK _ (Sp.setRow hs hi _)
end
def C7:Int:=1152921504606846976
def dC (u:aK):Bool :=
 decide (0 ≤ u.id) && (decide (u.id < 2048) && (if u.kind = 1 then decide (1 ≤ u.amount) && (decide (u.amount ≤ C7) && decide (u.note = []))
  else if u.kind = 2 then decide (u.amount = 0) && decide (u.note = [])
  else if u.kind = 3 then decide (u.amount = 0) && (decide (u.hash = h0) && decide (u.note.length ≤ 64)) else false))
section
variable {G:ah} {Q:ag -> ah -> Prop}
theorem Dt:bk T aj [] = some (.agg (h0.map u8v)):=rfl
theorem Df {a b:List UInt8} (ha:a.length = 32) (hb:b.length = 32):aw T .eql aj (.agg (a.map u8v)) (.agg (b.map u8v)) = some (.bool (decide (a = b))) :=
 zX (i:=fE) (ie:=fY) (n:=32) cd rfl dz rfl rfl ha hb
theorem uW {a b:List UInt8} (ha:a.length = 32) (hb:b.length = 32):aw T .neq aj (.agg (a.map u8v)) (.agg (b.map u8v)) = some (.bool (!decide (a = b))) :=
 zW (i:=fE) (ie:=fY) (n:=32) cd rfl dz rfl rfl ha hb
theorem fX.use {u:aK} (h:u.ok) (hQ:∀ G',Ch [] G [] G' -> Q (.bool (dC u)) G'):al P fX.n [u.av] G Q:=by
 refine fX.sound ?_
 unfold fX.S
 obtain ⟨mA,hmA⟩:∃ m,m = (1152921504606846976:Int):=⟨_,rfl⟩
 rw [<- hmA]
 have hmax:C7 = mA:=by rw [hmA]; rfl
 unfold dC at hQ
 rw [hmax] at hQ
 clear hmax hmA
 intro i1 f1
 have s1:=(Sp.nil G).row f1 u.av
 obtain ⟨l0,l1,l2,l3,l4,_⟩:=dh (i:=0) s1 rfl h
 have hQ:=hQ _ s1.ch
 revert hQ l0 l1 l2 l3 l4
 generalize G.upd i1 (.own u.av) = G2
 intro l0 l1 l2 l3 l4 hQ J37
 have bad:(decide (0 ≤ u.id) && decide (u.id < 2048)) = false -> J37 (.bool true) G2:=by
  intro hb
  simp -zeta only [J37,aX]
  rw [<- Bool.and_assoc,hb,Bool.false_and] at hQ
  exact hQ
 have kA:0 ≤ u.id -> u.id < 2048 -> J37 (.bool false) G2:=by
  intro h0 h1
  rw [decide_eq_true h0,decide_eq_true h1,Bool.true_and,Bool.true_and] at hQ
  simp -zeta only [J37,aM]
  rw [l0,aa,bC,aa,aE]
  refine ⟨fun hk=>?_,fun hk1=>?_⟩
  ·rw [if_pos hk] at hQ
   rw [l2,aa,gq,aa,aE]
   refine ⟨fun ha=>?_,fun ha=>by rwa [decide_eq_false ha,Bool.false_and] at hQ⟩
   rw [decide_eq_true ha,Bool.true_and] at hQ
   rw [aa,jl,aa,aE]
   refine ⟨fun hb=>?_,fun hb=>by rwa [decide_eq_false hb,Bool.false_and] at hQ⟩
   rw [decide_eq_true hb,Bool.true_and] at hQ
   rw [l4,aa,oW,aa]
   exact hQ
  rw [if_neg hk1] at hQ
  rw [bC,aa,aE]
  refine ⟨fun hk=>?_,fun hk2=>?_⟩
  ·rw [if_pos hk] at hQ
   rw [l2,aa,bC,aa,aE]
   refine ⟨fun ha=>?_,fun ha=>by rwa [decide_eq_false ha,Bool.false_and] at hQ⟩
   rw [decide_eq_true ha,Bool.true_and] at hQ
   rw [l4,aa,oW,aa]
   exact hQ
  rw [if_neg hk2] at hQ
  rw [bC,aa,aE]
  refine ⟨fun hk=>?_,fun hk3=>?_⟩
  ·rw [if_pos hk] at hQ
   rw [l2,aa,bC,aa,aE]
   refine ⟨fun ha=>?_,fun ha=>by rwa [decide_eq_false ha,Bool.false_and] at hQ⟩
   rw [decide_eq_true ha,Bool.true_and] at hQ
   rw [l3,aa,Dt,aa,Df h.hash mL,aa,aE]
   refine ⟨fun hb=>?_,fun hb=>by rwa [decide_eq_false hb,Bool.false_and] at hQ⟩
   rw [decide_eq_true hb,Bool.true_and] at hQ
   rw [l4,aa]
   show wv (some (.int .i64 (u.note.length:Nat))) _
   rw [aa,jl,aa]
   have:decide (((u.note.length:Nat):Int) ≤ 64) = decide (u.note.length ≤ 64):=by rw [decide_eq_decide]; omega
   rw [this]
   exact hQ
  ·rwa [if_neg hk3] at hQ
 rw [l1,aa,aH,aa,aE]
 refine ⟨fun hb=>bad (by rw [decide_eq_false (by omega),Bool.false_and]),fun h0=>?_⟩
 rw [aa,gq,aa]
 by_cases h1:(2048:Int) ≤ u.id
 ·rw [decide_eq_true h1]
  exact bad (by rw [decide_eq_false (show ¬ u.id < 2048 by omega),Bool.and_false])
 ·rw [decide_eq_false h1]
  exact kA (by omega) (by omega)
theorem cy.use {u:aK} (h:u.ok) (hQ:∀ G',Ch [] G [] G' -> Q (.bool (dC u)) G'):al P cy.n [u.av] G Q:=by
 refine cy.sound ?_
 unfold cy.S
 obtain ⟨mA,hmA⟩:∃ m,m = (1152921504606846976:Int):=⟨_,rfl⟩
 rw [<- hmA]
 have hmax:C7 = mA:=by rw [hmA]; rfl
 unfold dC at hQ
 rw [hmax] at hQ
 clear hmax hmA
 rw [kM]
 intro i1 f1
 have s1:=(Sp.nil G).row f1 u.av
 refine ae Dt ?_
 intro i4 f4
 have s4:=s1.row f4 (.agg ((List.replicate 32 (0:UInt8)).map u8v))
 refine pw (i:=0) (h':=h0) s4 rfl Kp mL fun G2 s6=>?_
 obtain ⟨l0,l1,l2,l3,l4,_⟩:=dh (i:=1) s6 rfl h
 have l5:=bE mL (ar.own (i:=0) s6 rfl)
 have hQ:=hQ _ s6.ch
 revert l0 l1 l2 l3 l4 l5 hQ
 intro l0 l1 l2 l3 l4 l5 hQ J41
 have bad:(decide (0 ≤ u.id) && decide (u.id < 2048)) = false -> J41 (.bool true) G2:=by
  intro hb
  simp -zeta only [J41,aX]
  rw [<- Bool.and_assoc,hb,Bool.false_and] at hQ
  exact hQ
 have kA:0 ≤ u.id -> u.id < 2048 -> J41 (.bool false) G2:=by
  intro h0 h1
  rw [decide_eq_true h0,decide_eq_true h1,Bool.true_and,Bool.true_and] at hQ
  simp -zeta only [J41,aM]
  rw [l0,aa,bC,aa,aE]
  refine ⟨fun hk=>?_,fun hk1=>?_⟩
  ·rw [if_pos hk] at hQ
   rw [l2,aa,gq,aa,aE]
   refine ⟨fun ha=>?_,fun ha=>by rwa [decide_eq_false ha,Bool.false_and] at hQ⟩
   rw [decide_eq_true ha,Bool.true_and] at hQ
   rw [aa,jl,aa,aE]
   refine ⟨fun hb=>?_,fun hb=>by rwa [decide_eq_false hb,Bool.false_and] at hQ⟩
   rw [decide_eq_true hb,Bool.true_and] at hQ
   rw [l4,aa,oW,aa]
   exact hQ
  rw [if_neg hk1] at hQ
  rw [bC,aa,aE]
  refine ⟨fun hk=>?_,fun hk2=>?_⟩
  ·rw [if_pos hk] at hQ
   rw [l2,aa,bC,aa,aE]
   refine ⟨fun ha=>?_,fun ha=>by rwa [decide_eq_false ha,Bool.false_and] at hQ⟩
   rw [decide_eq_true ha,Bool.true_and] at hQ
   rw [l4,aa,oW,aa]
   exact hQ
  rw [if_neg hk2] at hQ
  rw [bC,aa,aE]
  refine ⟨fun hk=>?_,fun hk3=>?_⟩
  ·rw [if_pos hk] at hQ
   rw [l2,aa,bC,aa,aE]
   refine ⟨fun ha=>?_,fun ha=>by rwa [decide_eq_false ha,Bool.false_and] at hQ⟩
   rw [decide_eq_true ha,Bool.true_and] at hQ
   rw [l3,aa,l5,aa,Df h.hash mL,aa,aE]
   refine ⟨fun hb=>?_,fun hb=>by rwa [decide_eq_false hb,Bool.false_and] at hQ⟩
   rw [decide_eq_true hb,Bool.true_and] at hQ
   rw [l4,aa]
   show wv (some (.int .i64 (u.note.length:Nat))) _
   rw [aa,jl,aa]
   have:decide (((u.note.length:Nat):Int) ≤ 64) = decide (u.note.length ≤ 64):=by rw [decide_eq_decide]; omega
   rw [this]
   exact hQ
  ·rwa [if_neg hk3] at hQ
 rw [l1,aa,aH,aa,aE]
 refine ⟨fun hb=>bad (by rw [decide_eq_false (by omega),Bool.false_and]),fun h0=>?_⟩
 rw [aa,gq,aa]
 by_cases h1:(2048:Int) ≤ u.id
 ·rw [decide_eq_true h1]
  exact bad (by rw [decide_eq_false (show ¬ u.id < 2048 by omega),Bool.and_false])
 ·rw [decide_eq_false h1]
  exact kA (by omega) (by omega)
end
end Go.Esc.M
namespace Go.Esc
open Go Go.RowKit
def bR (a b:Int):ag:=.agg [.int .i64 a,.int .i64 b]
def bz (v:ag):Prop:=sz v = 1 /\ v.isAgg = false /\ okv v = true
theorem bz.nil:bz .nilSlice:=⟨rfl,rfl,rfl⟩
theorem qT:∀ l:List ag,szs l = (l.map sz).sum
 | []=>rfl
 | v :: l=>by rw [ou,qT l]; simp
theorem jg {v:ag} {ti:TI} (h:bz v) (ht:(Nat.beq ti.size 1 && !ti.desc.isAgg) = true):fa ti v = true:=by
 simp only [Bool.and_eq_true,Bool.not_eq_true'] at ht
 have:=Nat.eq_of_beq_eq_true ht.1
 simp [fa,h.1,h.2.1,this,ht.2]
section
variable {T:Tbl} {G:ah} {id:AId} {cs ds:List ag} {ss ss2:List Nat} {k j o o2 oo:Nat} {c u:ag} {t:TypeId} {ti:TI}
theorem oG (h:cs.map sz = ss) (ho:(ss.take k).sum = o):szs (cs.take k) = o:=by
 rw [qT,List.map_take,h,ho]
theorem ld1 (hg:G id = some (.own (.agg cs))) (hs:cs.map sz = ss) (ho:(ss.take k).sum = o) (hc:cs[k]? = some c) (ht:T t = some ti) (hf:fa ti c = true):lq T G t (.ptr id [k] o) = some c :=
 dQ hg rfl (oG hs ho) hc ht hf
theorem ld2 (hg:G id = some (.own (.agg cs))) (hs:cs.map sz = ss) (ho:(ss.take k).sum = o) (hc:cs[k]? = some (.agg ds)) (hs2:ds.map sz = ss2) (ho2:(ss2.take j).sum = o2) (hc2:ds[j]? = some c) (hoo:o + o2 = oo) (ht:T t = some ti) (hf:fa ti c = true) :
  lq T G t (.ptr id [k,j] oo) = some c:=by
 subst hoo
 have e1:=oG hs ho
 have e2:=oG hs2 ho2
 simp [lq,mo,hg,kZ,sub,e1,e2,hc,hc2,ht,hf]
theorem st1 (hg:G id = some (.own (.agg cs))) (hs:cs.map sz = ss) (ho:(ss.take k).sum = o) (hc:cs[k]? = some u) (ht:T t = some ti) (hf:fa ti c = true) (hsz:sz u = sz c) (hok:okv c = true) :
  ax T G t (.ptr id [k] o) c = some (G.upd id (.own (.agg (cs.set k c)))):=km hg (oG hs ho) hc ht hf hsz hok
theorem st2 (hg:G id = some (.own (.agg cs))) (hs:cs.map sz = ss) (ho:(ss.take k).sum = o) (hc:cs[k]? = some (.agg ds)) (hs2:ds.map sz = ss2) (ho2:(ss2.take j).sum = o2) (hc2:ds[j]? = some u) (hoo:o + o2 = oo) (ht:T t = some ti) (hf:fa ti c = true) (hsz:sz u = sz c) (hok:okv c = true) :
  ax T G t (.ptr id [k,j] oo) c = some (G.upd id (.own (.agg (cs.set k (.agg (ds.set j c)))))):=by
 subst hoo
 have e1:=oG hs ho
 have e2:=oG hs2 ho2
 simp [ax,hg,sub,e1,e2,hc,hc2,ht,hf,hsz,hok,putAt]
end
end Go.Esc
namespace Go.Esc.M
open Go Go.Esc
def mj (a b:List UInt8):ag:=.agg [.agg (a.map u8v),.agg (b.map u8v)]
theorem rk {a b:List UInt8} (ha:a.length = 32) (hb:b.length = 32):fa kE (mj a b) = true:=by
 simp [fa,mj,Esc.sz,szs,szh ha,szh hb,kE,ag.isAgg,j4.isAgg]
end Go.Esc.M
