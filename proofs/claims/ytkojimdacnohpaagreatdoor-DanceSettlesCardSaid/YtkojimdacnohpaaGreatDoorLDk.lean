import Derived.Test.YtkojimdacnohpaaGreatDoorLDb
set_option maxHeartbeats 2000000
set_option linter.unusedSimpArgs false
set_option linter.unusedVariables false
set_option maxRecDepth 20000
namespace Go.Esc.M
open Go Go.Esc
def slice (b:List UInt8) (at_ n:Nat):List UInt8:=(b.drop at_).take n
theorem LM (n:Int):I64 (IntKind.i64.wrap n):=vt.1 (wf_wrap .i64 n)
theorem IF {b:List UInt8}{at_ n:Nat}{nn:Int}(hn:nn=(n:Int)) (h:at_+n≤b.length):takes (b.drop at_,0) nn=(slice b at_ n,(b.drop (at_+n),0)):=by
 subst hn
 rw[IE (by rw[List.length_drop];omega),Int.toNat_natCast,List.drop_drop]
 rfl
section
variable {F0:List AId}{G0 G:ak}{ps:List LP}{Q:ah->ak->Prop}
end
end Go.Esc.M
namespace Go.Esc
open Go Go.RowKit
section
variable {T:Tbl}{ts e:TypeId}{si ie:TI} (ht:T ts=some si) (hd:si.desc=.slice e) (he:T e=some ie) (hz:sz ie.zero=ie.size)
variable {F0:List AId}{G0 G:ak}{ps:List LP}{K:ah->ak->Prop}
include ht hd he hz in
theorem Hh {a b:ah}(hs:Sp F0 G0 ps G) (ha:sz a=ie.size) (hb:sz b=ie.size) (hie:2*ie.size≤16777216) (hK:∀ s' G',Sp F0 G0 (bm ie.size s' [a,b]::ps) G'->K s' G'):bu T ts 2 [(0,a),(1,b)] G K:=by
 unfold bu
 have hf:nx (fun k=>some (k*ie.size,ie.size)) (List.replicate 2 ie.zero) [(0,a),(1,b)]=some [a,b]:=by simp[nx,hz,ha,hb,szs,List.replicate]
 simp only[ht,hd,he,hf]
 refine⟨by omega,fun id hfr=>hK _ _ (hs.new (p:=bm ie.size _ [a,b]) ⟨.inr ⟨id,2,2,[a,b],rfl,ak.dR _ _ _,rfl,Nat.le_refl _,by simp[Esc.uni,ha,hb],rfl⟩,rfl⟩ ?_)⟩
 simpa[rowOf] using Ch.new hfr
end
end Go.Esc
namespace Go.Esc.M
open Go Go.Esc
theorem zu {a b:List UInt8}(ha:a.length=32) (hb:b.length=32):kV T 8 ar (.agg (a.map u8v)) (.agg (b.map u8v))=some (decide (a=b)):=by
 rw[q8 (i:=dQ) bZ rfl cW,xL (ie:=gi) cW rfl rfl 6 32 a b ha hb]
def kW (b:Bool) (l:List ba):List ba:=(l.filter (fun p=>p.ours != b)).map (fun p=>{ p with ours:=b })
def pE (l:List ba):List ba:=kW true l++kW false l
theorem zD {b:Bool}{l:List ba}{j:Nat}{p:ba}(h:l[j]?=some p):kW b (l.take (j+1))=kW b (l.take j)++(if p.ours=b then [] else [{ p with ours:=b }]):=by
 rw[List.take_add_one,h]
 unfold kW
 rw[List.filter_append,List.map_append]
 congr 1
 cases ho:p.ours<;>cases b<;>simp[ho]
theorem we (b:Bool) (l:List ba):(kW b l).length≤l.length:=by
 rw[kW,List.length_map];exact List.length_filter_le _ _
theorem DL (b:Bool) (l:List ba) (j:Nat):(kW b (l.take j)).length≤(kW b l).length:=by
 rw[kW,kW,List.length_map,List.length_map]
 exact ((List.take_sublist j l).filter _).length_le
theorem ba.ok.side {p:ba}(h:p.ok) (b:Bool):({ p with ours:=b }:ba).ok:=⟨h.id,h.amount,h.hash⟩
theorem DK {b:Bool}{l:List ba}(h:∀ p∈l,p.ok):∀ p∈kW b l,p.ok:=by
 intro p hp
 rw[kW]at hp
 obtain⟨q,hq,rfl⟩:=List.mem_map.1 hp
 exact (h q (List.mem_filter.1 hq).1).side b
theorem zF {l:List ba}(h:∀ p∈l,p.ok):∀ p∈pE l,p.ok:=by
 intro p hp
 rcases List.mem_append.1 hp with hp|hp
 ·exact DK h p hp
 ·exact DK h p hp
theorem pI (l:List ba):(pE l).length=l.length:=by
 induction l with
 | nil=>rfl
 | cons p l ih=>
  have:∀ b,(kW b (p::l)).length=(kW b l).length+(if p.ours=b then 0 else 1):=by
   intro b
   unfold kW
   cases ho:p.ours<;>cases b<;>simp[ho]
  rw[pE,List.length_append]at ih ⊢
  rw[this,this,List.length_cons]
  cases ho:p.ours<;>simp[ho]<;>omega
section
variable {F0:List AId}{G0 G:ak}{ps:List LP}{Q:ah->ak->Prop}
theorem D9 {i:Nat}{id:AId}{p:ba}(hs:Sp F0 G0 ps G) (hi:ps[i]?=some (au id p.av)) (b:Bool) {K:ak->Prop}(hK:∀ G',Sp F0 G0 (ps.set i (au id ({ p with ours:=b }:ba).av)) G'->K G'):wg (aF T G du (.ptr id [0] 0) (.bool b)) K:=by
 refine fg (mG (c:=.bool b) (u:=.bool p.ours) (au.own hs hi) rfl rfl lL rfl rfl rfl) ?_
 exact hK _ (Sp.setRow hs hi _)
theorem jD.use {o q:Int}{v:ah}{l:List ba}(hl:ff 35 G v (l.map ba.av)) (hok:∀ p∈l,p.ok) (hlen:l.length*56≤140737488355328) (hQ:∀ s G',Sp [] G [bm 35 s ((pE l).map ba.av)] G'->Q (gH q o s) G') :
  al P jD.n [gH o q v] G Q:=by
 have hv:=tU hl
 refine jD.sound ?_
 unfold jD.S
 rw[J5]
 intro i1 f1
 have s1:=(Sp.nil G).row f1 (gH o q v)
 intro i3 f3
 have s3:=s1.row f3 (gH 0 0 .nilSlice)
 refine ae (iI (i:=1) s3 rfl hv).2.1 ?_
 refine ae (iI (i:=1) s3 rfl hv).1 ?_
 refine ae (v:=gH q o .nilSlice) rfl ?_
 intro i8 f8
 have s8:=s3.row f8 (gH 0 0 .nilSlice)
 refine nN (i:=0) s8 rfl rfl rl fun G10 s10=>?_
 refine Hh (T:=T) (ts:=om) (e:=du) (si:=oZ) (ie:=rT) xW rfl lL rfl s10 rfl rfl (by decide) fun v11 G12 s12=>?_
 have s12:Sp [] G [bm 1 v11 [.bool true,.bool false],au i8 (gH q o .nilSlice),au i3 (gH 0 0 .nilSlice),au i1 (gH o q v)] G12:=s12
 have bl:∀ {G':ak},Own 1 G' v11 [.bool true,.bool false]->fU T G' om v11=some (.int .i64 2):=fun h=>h.is.len (i:=oZ) xW rfl
 refine ae (bl (bm.own (i:=0) s12 rfl)) ?_
 have s12:=s12.nz 35
 have ln:∀ {G':ak},Ch [] G [] G'->fU T G' aw v=some (.int .i64 (l.length:Nat)):=fun c=>by
  rw[(hl.ch' c).len (i:=b8) cy rfl,List.length_map]
 intro R14 hR14
 have inner:∀ (side:Bool) (acc:List ba) (y:Int) (G':ak) (s:ah),acc.length+(kW side l).length≤l.length ->
   Sp [] G [bm 35 s (acc.map ba.av),bm 1 v11 [.bool true,.bool false],au i8 (gH q o s),au i3 (gH 0 0 .nilSlice),au i1 (gH o q v)] G' ->
   (∀ (G':ak) (s:ah),Sp [] G [bm 35 s ((acc++kW side l).map ba.av),bm 1 v11 [.bool true,.bool false],au i8 (gH q o s),au i3 (gH 0 0 .nilSlice),au i1 (gH o q v)] G'->R14 [.ptr i1 [] 0,.ptr i3 [] 0,.ptr i8 [] 0,v11,.int .i64 2,.int .i64 (IntKind.i64.wrap (y+1))] G') ->
   wv (some (.bool side)) fun v24=>wv (bt T aX (.ptr i1 [] 0) 2) fun v25=>wv (ag T G' aw v25) fun v26=>wv (fU T G' aw v26) fun v27=>∀ R28:List ah->ak->Prop,
 (∀ (x30 x31 x32 x33 x34 x35 x36 x37 x38 x39:ah) (G29:ak),(wv (az T .lss ay x39 x38) fun v40=>brB (some v40)
 (wv (aO T aw x37 x39) fun v41=>wv (ag T G29 aT v41) fun v42=>br G29 (.own (jQ)) fun i43 G44=>wg (aF T G44 aT (.ptr i43 [] 0) v42) fun G45=>wv (ag T G45 du (.ptr i43 [0] 0)) fun v46=>wv (az T .neq du v46 x33) fun v47=>brB (some v47)
 (wg (aF T G45 du (.ptr i43 [0] 0) x33) fun G48=>wv (bt T aX x32 2) fun v49=>wv (ag T G48 aw v49) fun v50=>wv (ag T G48 aT (.ptr i43 [] 0)) fun v51=>bu T aw 1 [(0,v51)] G48 fun v52 G53=>cn T G53 aw aw v50 v52 fun v54 G55=>wv (bt T aX x32 2) fun v56=>wg (aF T G55 aw v56 v54) fun G57=>wv (az T .add ay x39 (.int .i64 1)) fun v61=>R28 [x30,x31,x32,x33,x34,x35,x36,x37,x38,v61] G57)
 (wv (az T .add ay x39 (.int .i64 1)) fun v62=>R28 [x30,x31,x32,x33,x34,x35,x36,x37,x38,v62] G45))
 (wv (az T .add ay x36 (.int .i64 1)) fun v63=>R14 [x30,x31,x32,x34,x35,v63] G29))->R28 [x30,x31,x32,x33,x34,x35,x36,x37,x38,x39] G29) ->
 R28 [.ptr i1 [] 0,.ptr i3 [] 0,.ptr i8 [] 0,v24,v11,.int .i64 2,.int .i64 y,v26,v27,.int .i64 0] G':=by
  intro side acc y G' s hacc hs hnext
  rw[aa]
  show wv (ag T G' aw (.ptr i1 [2] 2)) _
  refine ae (iI (i:=4) hs rfl hv).2.2.1 ?_
  refine ae (ln hs.ch) ?_
  intro R28 hR28
  have lp:∀ (n x:Nat) (s:ah) (G':ak),l.length-x=n->x≤l.length->Sp [] G [bm 35 s ((acc++kW side (l.take x)).map ba.av),bm 1 v11 [.bool true,.bool false],au i8 (gH q o s),au i3 (gH 0 0 .nilSlice),au i1 (gH o q v)] G' ->
    R28 [.ptr i1 [] 0,.ptr i3 [] 0,.ptr i8 [] 0,.bool side,v11,.int .i64 2,.int .i64 y,v,.int .i64 (l.length:Nat),.int .i64 (x:Int)] G':=by
   intro n
   induction n with
   | zero=>
    intro x s G' hn hx hs
    have:x=l.length:=by omega
    subst this
    rw[List.take_length]at hs
    refine hR28 _ _ _ _ _ _ _ _ _ _ _ ?_
    rw[aM,aa,aI]
    refine⟨fun h=>absurd h (by omega),fun _=>?_⟩
    rw[bg,aa]
    exact hnext _ _ hs
   | succ n ih=>
    intro x s G' hn hx hs
    obtain⟨p,hp⟩:∃ p,l[x]?=some p:=⟨_,List.getElem?_eq_getElem (by omega)⟩
    have hpo:=hok p (List.mem_of_getElem? hp)
    obtain⟨a,ha,hla⟩:=vj (hl.ch' hs.ch) hp
    have htt:=zD (b:=side) hp
    refine hR28 _ _ _ _ _ _ _ _ _ _ _ ?_
    rw[aM,aa,aI]
    refine⟨fun _=>?_,fun h=>absurd (by omega) h⟩
    rw[ha,aa,hla,aa]
    refine jL hs eP (ba.fits hpo) (by rw[ba.sz hpo];rfl) (ba.okv p) fun i43 G45 s45=>?_
    refine ae (ba.fld hpo (au.own (i:=0) s45 rfl)).1 ?_
    rw[Ht lL rfl,aa,gO]
    refine⟨fun h=>?_,fun h=>?_⟩
    ·have hne:p.ours≠side:=by simpa using h
     rw[if_neg hne]at htt
     refine D9 (i:=0) s45 rfl side fun G48 s48=>?_
     have hpo2:=hpo.side side
     have ho0:=bm.own (i:=1) s48 rfl
     show wv (ag T G48 aw (.ptr i8 [2] 2)) _
     refine ae (iI (i:=3) s48 rfl ho0.leaf).2.2.1 ?_
     refine ae (cj eP (au.own (i:=0) s48 rfl) (ba.fits hpo2)) ?_
     refine wm (T:=T) (ts:=aw) (e:=aT) (si:=b8) (ie:=dS) (i:=1) cy rfl eP rfl (by decide) s48 rfl (ba.sz hpo2) (ba.okv _) (by decide) ?_ fun s57 G58 s58=>?_
     ·have:dS.bytes=56:=rfl
      have h2:=DL side l (x+1)
      rw[htt,List.length_append,List.length_singleton]at h2
      rw[List.length_map,this,List.length_append]
      omega
     show wg (aF T G58 aw (.ptr i8 [2] 2) s57) _
     refine GQ (i:=3) s58 rfl ho0.leaf.1 (bm.own (i:=1) s58 rfl).leaf fun G60 s60=>?_
     rw[bg,aa,i64_in (by omega) (by omega)]
     refine ih (x+1) s57 G60 (by omega) (by omega) ?_
     rw[htt,<- List.append_assoc,List.map_append]
     exact s60.erase 0
    ·have hne:p.ours=side:=by simpa using h
     rw[if_pos hne,List.append_nil]at htt
     rw[bg,aa,i64_in (by omega) (by omega)]
     refine ih (x+1) s G45 (by omega) (by omega) ?_
     rw[htt]
     exact s45.erase 0
  refine lp _ 0 s G' rfl (by omega) ?_
  simpa[kW] using hs
 have at_:∀ {G':ak}{j:Nat}{b:Bool},Own 1 G' v11 [.bool true,.bool false]->[ah.bool true,.bool false][j]?=some (.bool b)->∃ a,aO T om v11 (.int .i64 (j:Nat))=some a/\ag T G' du a=some (.bool b):=fun h hj=>
  h.is.at_ (k:=.i64) (i:=oZ) (ie:=rT) (T:=T) (t:=om) (e:=du) xW rfl lL hj rfl
 refine hR14 _ _ _ _ _ _ _ ?_
 rw[aM,aa,aI]
 refine⟨fun _=>?_,fun h=>absurd (by decide) h⟩
 obtain⟨a,ha,hla⟩:=at_ (j:=0) (bm.own (i:=1) s12 rfl) rfl
 refine ae ha ?_
 rw[hla]
 refine inner true [] 0 G12 .nilSlice (by simpa using we true l) s12 fun G' s hs=>?_
 refine hR14 _ _ _ _ _ _ _ ?_
 rw[aM,aa,aI]
 refine⟨fun _=>?_,fun h=>absurd (by decide) h⟩
 obtain⟨a,ha,hla⟩:=at_ (j:=1) (bm.own (i:=1) hs rfl) rfl
 refine ae ha ?_
 rw[hla]
 refine inner false ([]++kW true l) (IntKind.i64.wrap (0+1)) G' s (by have:=pI l;rw[pE,List.length_append]at this;simp;omega) hs fun G' s hs=>?_
 refine hR14 _ _ _ _ _ _ _ ?_
 rw[aM,aa,aI]
 refine⟨fun h=>absurd h (by decide),fun _=>?_⟩
 have ho0:=bm.own (i:=0) hs rfl
 refine ae (iI (i:=2) hs rfl ho0.leaf).2.2.2 ?_
 refine nN (i:=3) hs rfl rfl ho0.leaf fun G65 s65=>?_
 refine ae (iI (i:=3) s65 rfl ho0.leaf).2.2.2 ?_
 exact hQ s _ ((((s65.erase 1).erase 1).erase 1).erase 1)
end
end Go.Esc.M
namespace Go.Esc.M
open Go Go.Esc
def z32:List UInt8:=List.replicate 32 0
def p1:ba:=⟨true,3,9,z32⟩
def h7:List UInt8:=7::List.replicate 31 0
def c1:Com:=⟨1,5,h7,10,20,[p1]⟩
theorem idx {l:List UInt8}{j:Nat}{b:UInt8}(h:l[j]?=some b):pz T bH (.str l) (.int .i64 (j:Nat))=some (.int .u8 (b.toNat:Nat)):=by
 obtain⟨hj,rfl⟩:=List.getElem?_eq_some_iff.1 h
 exact E5 hj
theorem Co {o q:Int}{v:ah}(hv:sz v=1):bj T aX [(0,.int .i64 o),(1,.int .i64 q),(2,v)]=some (gH o q v):=by
 have hf:∀ pl:Nat->Option (Nat×Nat),pl 0=some (0,1)->pl 1=some (1,1)->pl 2=some (2,1)->nx pl [.int .i64 0,.int .i64 0,.nilSlice] [(0,.int .i64 o),(1,.int .i64 q),(2,v)]=some [.int .i64 o,.int .i64 q,v]:=by
  intro pl e0 e1 e2
  simp[nx,e0,e1,e2,sz,szs,hv]
 have ha:[(aq,0),(aq,1),(aw,2)].all (fun g=>(T g.1).isSome)=true:=rfl
 have hf:=hf (places T [(aq,0),(aq,1),(aw,2)]) rfl rfl rfl
 unfold bj
 have e1:lN.desc=.struct [(aq,0),(aq,1),(aw,2)]:=rfl
 have e2:lN.zero=.agg [.int .i64 0,.int .i64 0,.nilSlice]:=rfl
 simp only[ng,e1,e2,ha,if_true,hf]
 rfl
section
variable {F0:List AId}{G0 G:ak}{ps:List LP}{Q:ah->ak->Prop}
end
end Go.Esc.M
namespace Go.Esc.M
open Go Go.Esc
def mark:ba:=⟨false,-77,0,z32⟩
structure MN (w v:ah) (l:List ba):Prop where
 own:∀ {G:ak},Own 35 G v ((l++[mark]).map ba.av)->Own 35 G w (l.map ba.av)
 back:dV T aw w none (some (.int .i64 ((l.length+1:Nat):Int))) none=some v
section
variable {F0:List AId}{G0 G:ak}{ps:List LP}{Q:ah->ak->Prop}
end
end Go.Esc.M
namespace Go.Esc.M
open Go Go.Esc
def mk (n:Int) (p:ba):ba:=⟨p.ours,n+1+p.id % 4,1+p.amount % 576460752303423488,p.hash⟩
section
variable {F0:List AId}{G0 G:ak}{ps:List LP}{Q:ah->ak->Prop}
end
end Go.Esc.M
namespace Go.Esc.M
open Go Go.Esc
def side (b:Bool) (l:List ba):List ba:=l.map (fun p=>{ p with ours:=b })
theorem vJ (b:Bool) (l m:List ba):kW b (l++m)=kW b l++kW b m:=by simp[kW]
section
variable {F0:List AId}{G0 G:ak}{ps:List LP}{Q:ah->ak->Prop}
end
end Go.Esc.M
namespace Go.Esc.M
open Go Go.Esc
def m1:ba:=⟨false,-1,0,z32⟩
def m2:ba:=⟨false,-2,0,z32⟩
section
variable {F0:List AId}{G0 G:ak}{ps:List LP}{Q:ah->ak->Prop}
theorem Kr {i j:Nat}{v:ah}{l:List ba}{p:ba}(hs:Sp F0 G0 ps G) (hi:ps[i]?=some (bm 35 v (l.map ba.av))) (hj:j<l.length) (hp:p.ok) :
  ∃ a,aO T aw v (.int .i64 (j:Int))=some a/\∀ K:ak->Prop,(∀ G',Sp F0 G0 (ps.set i (bm 35 v ((l.set j p).map ba.av))) G'->K G')->wg (aF T G aT a p.av) K:=by
 have ho:=bm.own hs hi
 rcases ho with ⟨_,h⟩|⟨id,len,cap,cs,rfl,hg,hc,hl,hu,he⟩
 ·rw[List.map_eq_nil_iff]at h
  rw[h]at hj
  simp at hj
 ·have hlen:len=l.length:=by
   have:=congrArg List.length he
   simp only[List.length_map,List.length_take]at this
   omega
  obtain⟨a,ha,hst⟩:=GI (T:=T) (t:=aw) (e:=aT) (i:=b8) (ie:=dS) (cap:=cap) (k:=.i64) (c:=p.av) cy rfl eP hg hu (show j<len by omega) (by omega) (ba.sz hp) rfl (ba.okv p)
  refine⟨a,ha,fun K hK=>fg hst (hK _ ?_)⟩
  refine hs.call hi (bm 35 (.slice id [] 0 0 len cap) ((l.set j p).map ba.av)) fun F h k=>?_
  obtain⟨_,rfl⟩:=h
  refine k _ _ ⟨.inr ⟨id,len,cap,cs.set j p.av,rfl,ak.dR _ _ _,by rw[List.length_set];exact hc,hl,CG hu (ba.sz hp),?_⟩,rfl⟩ (sZ hg (by simp))
  rw[List.map_set,he,List.take_set]
end
end Go.Esc.M
