import Derived.Test.YtkojimdacnohpaaGreatDoorLDc
import Derived.Test.YtkojimdacnohpaaGreatDoorLHb
set_option maxHeartbeats 2000000
set_option linter.unusedSimpArgs false
set_option linter.unusedVariables false
set_option maxRecDepth 20000
namespace Go.Esc
open Go Go.RowKit
section
variable {T:Tbl}{ts e:TypeId}{si ie:TI} (ht:T ts=some si) (hd:si.desc=.slice e) (he:T e=some ie) (hz:sz ie.zero=ie.size)
variable {F0:List AId}{G0 G:ak}{ps:List LP}{K:ah->ak->Prop}
include ht hd he hz in
theorem Hh {a b:ah}(hs:Sp F0 G0 ps G) (ha:sz a=ie.size) (hb:sz b=ie.size) (hie:2*ie.size≤16777216) (hK:∀ s' G',Sp F0 G0 (bm ie.size s' [a,b]::ps) G'->K s' G'):bu T ts 2 [(0,a),(1,b)] G K:=by
 unfold bu;have hf:nx (fun k=>some (k*ie.size,ie.size)) (List.replicate 2 ie.zero) [(0,a),(1,b)]=some [a,b]:=by simp[nx,hz,ha,hb,szs,List.replicate]
 simp only[ht,hd,he,hf];refine⟨by omega,fun id hfr=>hK _ _ (hs.new (p:=bm ie.size _ [a,b]) ⟨.inr ⟨id,2,2,[a,b],rfl,ak.dR _ _ _,rfl,Nat.le_refl _,by simp[Esc.uni,ha,hb],rfl⟩,rfl⟩ ?_)⟩;simpa[rowOf] using Ch.new hfr
end
end Go.Esc
namespace Go.Esc.M
open Go Go.Esc
theorem zu {a b:List UInt8}(ha:a.length=32) (hb:b.length=32):kV T 8 ar (.agg (a.map u8v)) (.agg (b.map u8v))=some (decide (a=b)):=by
 rw[q8 (i:=dQ) bZ rfl cW,xL (ie:=gi) cW rfl rfl 6 32 a b ha hb]
def kW (b:Bool) (l:List ba):List ba:=(l.filter (fun p=>p.ours != b)).map (fun p=>{ p with ours:=b })
def pE (l:List ba):List ba:=kW true l++kW false l
theorem zD {b:Bool}{l:List ba}{j:Nat}{p:ba}(h:l[j]?=some p):kW b (l.take (j+1))=kW b (l.take j)++(if p.ours=b then [] else [{ p with ours:=b }]):=by
 rw[List.take_add_one,h];unfold kW;rw[List.filter_append,List.map_append];congr 1;cases ho:p.ours<;>cases b<;>simp[ho]
theorem we (b:Bool) (l:List ba):(kW b l).length≤l.length:=by
 rw[kW,List.length_map];exact List.length_filter_le _ _
theorem DL (b:Bool) (l:List ba) (j:Nat):(kW b (l.take j)).length≤(kW b l).length:=by
 rw[kW,kW,List.length_map,List.length_map];exact ((List.take_sublist j l).filter _).length_le
theorem ba.ok.side {p:ba}(h:p.ok) (b:Bool):({ p with ours:=b }:ba).ok:=⟨h.id,h.amount,h.hash⟩
theorem DK {b:Bool}{l:List ba}(h:∀ p∈l,p.ok):∀ p∈kW b l,p.ok:=by
 intro p hp;rw[kW]at hp;obtain⟨q,hq,rfl⟩:=List.mem_map.1 hp;exact (h q (List.mem_filter.1 hq).1).side b
theorem zF {l:List ba}(h:∀ p∈l,p.ok):∀ p∈pE l,p.ok:=by
 intro p hp;rcases List.mem_append.1 hp with hp|hp
 ·exact DK h p hp
 ·exact DK h p hp
theorem pI (l:List ba):(pE l).length=l.length:=by
 induction l with
 | nil=>rfl
 | cons p l ih=>
  have:∀ b,(kW b (p::l)).length=(kW b l).length+(if p.ours=b then 0 else 1):=by
   intro b;unfold kW;cases ho:p.ours<;>cases b<;>simp[ho]
  rw[pE,List.length_append]at ih ⊢;rw[this,this,List.length_cons];cases ho:p.ours<;>simp[ho]<;>omega
section
variable {F0:List AId}{G0 G:ak}{ps:List LP}{Q:ah->ak->Prop}
theorem D9 {i:Nat}{id:AId}{p:ba}(hs:Sp F0 G0 ps G) (hi:ps[i]?=some (au id p.av)) (b:Bool) {K:ak->Prop}(hK:∀ G',Sp F0 G0 (ps.set i (au id ({ p with ours:=b }:ba).av)) G'->K G'):wg (aF T G du (.ptr id [0] 0) (.bool b)) K:=by
 refine fg (mG (c:=.bool b) (u:=.bool p.ours) (au.own hs hi) rfl rfl lL rfl rfl rfl) ?_;exact hK _ (Sp.setRow hs hi _)
theorem jD.use {o q:Int}{v:ah}{l:List ba}(hl:ff 35 G v (l.map ba.av)) (hok:∀ p∈l,p.ok) (hlen:l.length*56≤140737488355328) (hQ:∀ s G',Sp [] G [bm 35 s ((pE l).map ba.av)] G'->Q (gH q o s) G') :
  al P jD.n [gH o q v] G Q:=by
 have hv:=tU hl;refine jD.sound ?_;unfold jD.S;rw[J5];intro i1 f1;have s1:=(Sp.nil G).row f1 (gH o q v);intro i3 f3;have s3:=s1.row f3 (gH 0 0 .nilSlice);refine ae (iI (i:=1) s3 rfl hv).2.1 ?_;refine ae (iI (i:=1) s3 rfl hv).1 ?_;refine ae (v:=gH q o .nilSlice) rfl ?_;intro i8 f8;have s8:=s3.row f8 (gH 0 0 .nilSlice);refine nN (i:=0) s8 rfl rfl rl fun G10 s10=>?_;refine Hh (T:=T) (ts:=om) (e:=du) (si:=oZ) (ie:=rT) xW rfl lL rfl s10 rfl rfl (by decide) fun v11 G12 s12=>?_;have s12:Sp [] G [bm 1 v11 [.bool true,.bool false],au i8 (gH q o .nilSlice),au i3 (gH 0 0 .nilSlice),au i1 (gH o q v)] G12:=s12;have bl:∀ {G':ak},Own 1 G' v11 [.bool true,.bool false]->fU T G' om v11=some (.int .i64 2):=fun h=>h.is.len (i:=oZ) xW rfl;refine ae (bl (bm.own (i:=0) s12 rfl)) ?_;have s12:=s12.nz 35;have ln:∀ {G':ak},Ch [] G [] G'->fU T G' aw v=some (.int .i64 (l.length:Nat)):=fun c=>by
  rw[(hl.ch' c).len (i:=b8) cy rfl,List.length_map]
 intro R14 hR14;have inner:∀ (side:Bool) (acc:List ba) (y:Int) (G':ak) (s:ah),acc.length+(kW side l).length≤l.length ->
   Sp [] G [bm 35 s (acc.map ba.av),bm 1 v11 [.bool true,.bool false],au i8 (gH q o s),au i3 (gH 0 0 .nilSlice),au i1 (gH o q v)] G' ->
   (∀ (G':ak) (s:ah),Sp [] G [bm 35 s ((acc++kW side l).map ba.av),bm 1 v11 [.bool true,.bool false],au i8 (gH q o s),au i3 (gH 0 0 .nilSlice),au i1 (gH o q v)] G'->R14 [.ptr i1 [] 0,.ptr i3 [] 0,.ptr i8 [] 0,v11,.int .i64 2,.int .i64 (IntKind.i64.wrap (y+1))] G') ->
   wv (some (.bool side)) fun v24=>wv (bt T aX (.ptr i1 [] 0) 2) fun v25=>wv (ag T G' aw v25) fun v26=>wv (fU T G' aw v26) fun v27=>∀ R28:List ah->ak->Prop,
 (∀ (x30 x31 x32 x33 x34 x35 x36 x37 x38 x39:ah) (G29:ak),(wv (az T .lss ay x39 x38) fun v40=>brB (some v40)
 (wv (aO T aw x37 x39) fun v41=>wv (ag T G29 aT v41) fun v42=>br G29 (.own (jQ)) fun i43 G44=>wg (aF T G44 aT (.ptr i43 [] 0) v42) fun G45=>wv (ag T G45 du (.ptr i43 [0] 0)) fun v46=>wv (az T .neq du v46 x33) fun v47=>brB (some v47)
 (wg (aF T G45 du (.ptr i43 [0] 0) x33) fun G48=>wv (bt T aX x32 2) fun v49=>wv (ag T G48 aw v49) fun v50=>wv (ag T G48 aT (.ptr i43 [] 0)) fun v51=>bu T aw 1 [(0,v51)] G48 fun v52 G53=>cn T G53 aw aw v50 v52 fun v54 G55=>wv (bt T aX x32 2) fun v56=>wg (aF T G55 aw v56 v54) fun G57=>wv (az T .add ay x39 (.int .i64 1)) fun v61=>R28 [x30,x31,x32,x33,x34,x35,x36,x37,x38,v61] G57)
 (wv (az T .add ay x39 (.int .i64 1)) fun v62=>R28 [x30,x31,x32,x33,x34,x35,x36,x37,x38,v62] G45))
 (wv (az T .add ay x36 (.int .i64 1)) fun v63=>R14 [x30,x31,x32,x34,x35,v63] G29))->R28 [x30,x31,x32,x33,x34,x35,x36,x37,x38,x39] G29) ->
 R28 [.ptr i1 [] 0,.ptr i3 [] 0,.ptr i8 [] 0,v24,v11,.int .i64 2,.int .i64 y,v26,v27,.int .i64 0] G':=by
  intro side acc y G' s hacc hs hnext;rw[aa];show wv (ag T G' aw (.ptr i1 [2] 2)) _;refine ae (iI (i:=4) hs rfl hv).2.2.1 ?_;refine ae (ln hs.ch) ?_;intro R28 hR28;have lp:∀ (n x:Nat) (s:ah) (G':ak),l.length-x=n->x≤l.length->Sp [] G [bm 35 s ((acc++kW side (l.take x)).map ba.av),bm 1 v11 [.bool true,.bool false],au i8 (gH q o s),au i3 (gH 0 0 .nilSlice),au i1 (gH o q v)] G' ->
    R28 [.ptr i1 [] 0,.ptr i3 [] 0,.ptr i8 [] 0,.bool side,v11,.int .i64 2,.int .i64 y,v,.int .i64 (l.length:Nat),.int .i64 (x:Int)] G':=by
   intro n;induction n with
   | zero=>
    intro x s G' hn hx hs;have:x=l.length:=(by omega);subst this;rw[List.take_length]at hs;refine hR28 _ _ _ _ _ _ _ _ _ _ _ ?_;rw[aM,aa,aI];refine⟨fun h=>absurd h (by omega),fun _=>?_⟩;rw[bg,aa];exact hnext _ _ hs
   | succ n ih=>
    intro x s G' hn hx hs;obtain⟨p,hp⟩:∃ p,l[x]?=some p:=⟨_,List.getElem?_eq_getElem (by omega)⟩;have hpo:=hok p (List.mem_of_getElem? hp);obtain⟨a,ha,hla⟩:=vj (hl.ch' hs.ch) hp;have htt:=zD (b:=side) hp;refine hR28 _ _ _ _ _ _ _ _ _ _ _ ?_;rw[aM,aa,aI];refine⟨fun _=>?_,fun h=>absurd (by omega) h⟩;rw[ha,aa,hla,aa];refine jL hs eP (ba.fits hpo) (by rw[ba.sz hpo];rfl) (ba.okv p) fun i43 G45 s45=>?_;refine ae (ba.fld hpo (au.own (i:=0) s45 rfl)).1 ?_;rw[Ht lL rfl,aa,gO];refine⟨fun h=>?_,fun h=>?_⟩
    ·have hne:p.ours≠side:=(by simpa using h);rw[if_neg hne]at htt;refine D9 (i:=0) s45 rfl side fun G48 s48=>?_;have hpo2:=hpo.side side;have ho0:=bm.own (i:=1) s48 rfl;show wv (ag T G48 aw (.ptr i8 [2] 2)) _;refine ae (iI (i:=3) s48 rfl ho0.leaf).2.2.1 ?_;refine ae (cj eP (au.own (i:=0) s48 rfl) (ba.fits hpo2)) ?_;refine wm (T:=T) (ts:=aw) (e:=aT) (si:=b8) (ie:=dS) (i:=1) cy rfl eP rfl (by decide) s48 rfl (ba.sz hpo2) (ba.okv _) (by decide) ?_ fun s57 G58 s58=>?_
     ·have:dS.bytes=56:=rfl;have h2:=DL side l (x+1);rw[htt,List.length_append,List.length_singleton]at h2;rw[List.length_map,this,List.length_append];omega
     show wg (aF T G58 aw (.ptr i8 [2] 2) s57) _;refine GQ (i:=3) s58 rfl ho0.leaf.1 (bm.own (i:=1) s58 rfl).leaf fun G60 s60=>?_;rw[bg,aa,i64_in (by omega) (by omega)];refine ih (x+1) s57 G60 (by omega) (by omega) ?_;rw[htt,<- List.append_assoc,List.map_append];exact s60.erase 0
    ·have hne:p.ours=side:=(by simpa using h);rw[if_pos hne,List.append_nil]at htt;rw[bg,aa,i64_in (by omega) (by omega)];refine ih (x+1) s G45 (by omega) (by omega) ?_;rw[htt];exact s45.erase 0
  refine lp _ 0 s G' rfl (by omega) ?_;simpa[kW] using hs
 have at_:∀ {G':ak}{j:Nat}{b:Bool},Own 1 G' v11 [.bool true,.bool false]->[ah.bool true,.bool false][j]?=some (.bool b)->∃ a,aO T om v11 (.int .i64 (j:Nat))=some a/\ag T G' du a=some (.bool b):=fun h hj=>
  h.is.at_ (k:=.i64) (i:=oZ) (ie:=rT) (T:=T) (t:=om) (e:=du) xW rfl lL hj rfl
 refine hR14 _ _ _ _ _ _ _ ?_;rw[aM,aa,aI];refine⟨fun _=>?_,fun h=>absurd (by decide) h⟩;obtain⟨a,ha,hla⟩:=at_ (j:=0) (bm.own (i:=1) s12 rfl) rfl;refine ae ha ?_;rw[hla];refine inner true [] 0 G12 .nilSlice (by simpa using we true l) s12 fun G' s hs=>?_;refine hR14 _ _ _ _ _ _ _ ?_;rw[aM,aa,aI];refine⟨fun _=>?_,fun h=>absurd (by decide) h⟩;obtain⟨a,ha,hla⟩:=at_ (j:=1) (bm.own (i:=1) hs rfl) rfl;refine ae ha ?_;rw[hla];refine inner false ([]++kW true l) (IntKind.i64.wrap (0+1)) G' s (by have:=pI l;rw[pE,List.length_append]at this;simp;omega) hs fun G' s hs=>?_;refine hR14 _ _ _ _ _ _ _ ?_;rw[aM,aa,aI];refine⟨fun h=>absurd h (by decide),fun _=>?_⟩;have ho0:=bm.own (i:=0) hs rfl;refine ae (iI (i:=2) hs rfl ho0.leaf).2.2.2 ?_;refine nN (i:=3) hs rfl rfl ho0.leaf fun G65 s65=>?_;refine ae (iI (i:=3) s65 rfl ho0.leaf).2.2.2 ?_;exact hQ s _ ((((s65.erase 1).erase 1).erase 1).erase 1)
theorem gd.use {o q:Int}{v:ah}{l:List ba}(hl:ff 35 G v (l.map ba.av)) (hok:∀ p∈l,p.ok) (hlen:l.length*56≤140737488355328) (hQ:∀ s G',Sp [] G [bm 35 s ((pE l).map ba.av)] G'->Q (gH q o s) G') :
  al P gd.n [gH o q v] G Q:=by
 have hv:=tU hl;refine gd.sound ?_;unfold gd.S;rw[J5];intro i1 f1;have s1:=(Sp.nil G).row f1 (gH o q v);intro i3 f3;have s3:=s1.row f3 (gH 0 0 .nilSlice);refine ae (iI (i:=1) s3 rfl hv).2.1 ?_;refine ae (iI (i:=1) s3 rfl hv).1 ?_;refine ae (v:=gH q o .nilSlice) rfl ?_;intro i8 f8;have s8:=s3.row f8 (gH 0 0 .nilSlice);refine nN (i:=0) s8 rfl rfl rl fun G10 s10=>?_;have s10:Sp [] G [au i8 (gH q o .nilSlice),au i3 (gH 0 0 .nilSlice),au i1 (gH o q v)] G10:=s10;have s12:=s10.nz 35;have ln:∀ {G':ak},Ch [] G [] G'->fU T G' aw v=some (.int .i64 (l.length:Nat)):=fun c=>by
  rw[(hl.ch' c).len (i:=b8) cy rfl,List.length_map]
 intro R11 hR11;have inner:∀ (side:Bool) (k:Int) (acc:List ba) (G':ak) (s:ah),acc.length+(kW side l).length≤l.length->(∀ b:Bool,(b == decide (k=1))=(b != side)) ->
   Sp [] G [bm 35 s (acc.map ba.av),au i8 (gH q o s),au i3 (gH 0 0 .nilSlice),au i1 (gH o q v)] G' ->
   (∀ (G':ak) (s:ah),Sp [] G [bm 35 s ((acc++kW side l).map ba.av),au i8 (gH q o s),au i3 (gH 0 0 .nilSlice),au i1 (gH o q v)] G'->R11 [.ptr i1 [] 0,.ptr i3 [] 0,.ptr i8 [] 0,.int .i64 (IntKind.i64.wrap (k+1))] G') ->
   (∀ R18:List ah->ak->Prop,
 (∀ (x20 x21 x22 x23 x24:ah) (G19:ak),(wv (bt T aX x20 2) fun v25=>wv (ag T G19 aw v25) fun v26=>wv (fU T G19 aw v26) fun v27=>wv (az T .lss ay x24 v27) fun v28=>brB (some v28)
 (wv (bt T aX x20 2) fun v29=>wv (ag T G19 aw v29) fun v30=>wv (aO T aw v30 x24) fun v31=>wv (ag T G19 aT v31) fun v32=>br G19 (.own (jQ)) fun i33 G34=>wg (aF T G34 aT (.ptr i33 [] 0) v32) fun G35=>wv (ag T G35 du (.ptr i33 [0] 0)) fun v36=>wv (az T .eql ay x23 (.int .i64 1)) fun v37=>wv (az T .eql du v36 v37) fun v38=>brB (some v38)
 (wv (ag T G35 du (.ptr i33 [0] 0)) fun v39=>wv (vun .not v39) fun v40=>wg (aF T G35 du (.ptr i33 [0] 0) v40) fun G41=>wv (bt T aX x22 2) fun v42=>wv (ag T G41 aw v42) fun v43=>wv (ag T G41 aT (.ptr i33 [] 0)) fun v44=>bu T aw 1 [(0,v44)] G41 fun v45 G46=>cn T G46 aw aw v43 v45 fun v47 G48=>wv (bt T aX x22 2) fun v49=>wg (aF T G48 aw v49 v47) fun G50=>wv (az T .add ay x24 (.int .i64 1)) fun v54=>R18 [x20,x21,x22,x23,v54] G50)
 (wv (az T .add ay x24 (.int .i64 1)) fun v55=>R18 [x20,x21,x22,x23,v55] G35))
 (wv (az T .add ay x23 (.int .i64 1)) fun v56=>R11 [x20,x21,x22,v56] G19))->R18 [x20,x21,x22,x23,x24] G19) ->
 R18 [.ptr i1 [] 0,.ptr i3 [] 0,.ptr i8 [] 0,.int .i64 k,.int .i64 0] G'):=by
  intro side k acc G' s hacc hside hs hnext;intro R28 hR28;have lp:∀ (n x:Nat) (s:ah) (G':ak),l.length-x=n->x≤l.length->Sp [] G [bm 35 s ((acc++kW side (l.take x)).map ba.av),au i8 (gH q o s),au i3 (gH 0 0 .nilSlice),au i1 (gH o q v)] G' ->
    R28 [.ptr i1 [] 0,.ptr i3 [] 0,.ptr i8 [] 0,.int .i64 k,.int .i64 (x:Int)] G':=by
   intro n;induction n with
   | zero=>
    intro x s G' hn hx hs;have:x=l.length:=(by omega);subst this;rw[List.take_length]at hs;refine hR28 _ _ _ _ _ _ ?_;show wv (ag T G' aw (.ptr i1 [2] 2)) _;refine ae (iI (i:=3) hs rfl hv).2.2.1 ?_;refine ae (ln hs.ch) ?_;rw[aM,aa,aI];refine⟨fun h=>absurd h (by omega),fun _=>?_⟩;rw[bg,aa];exact hnext _ _ hs
   | succ n ih=>
    intro x s G' hn hx hs;obtain⟨p,hp⟩:∃ p,l[x]?=some p:=⟨_,List.getElem?_eq_getElem (by omega)⟩;have hpo:=hok p (List.mem_of_getElem? hp);obtain⟨a,ha,hla⟩:=vj (hl.ch' hs.ch) hp;have htt:=zD (b:=side) hp;refine hR28 _ _ _ _ _ _ ?_;show wv (ag T G' aw (.ptr i1 [2] 2)) _;refine ae (iI (i:=3) hs rfl hv).2.2.1 ?_;refine ae (ln hs.ch) ?_;rw[aM,aa,aI];refine⟨fun _=>?_,fun h=>absurd (by omega) h⟩;show wv (ag T G' aw (.ptr i1 [2] 2)) _;refine ae (iI (i:=3) hs rfl hv).2.2.1 ?_;rw[ha,aa,hla,aa];refine jL hs eP (ba.fits hpo) (by rw[ba.sz hpo];rfl) (ba.okv p) fun i43 G45 s45=>?_;refine ae (ba.fld hpo (au.own (i:=0) s45 rfl)).1 ?_;rw[bB,aa,wU lL rfl,aa,hside,gO];refine⟨fun h=>?_,fun h=>?_⟩
    ·have hne:p.ours≠side:=(by simpa using h);have hnot:(!p.ours)=side:=(by decide:∀ a b:Bool,a≠b->(!a)=b) _ _ hne;rw[if_neg hne]at htt;refine ae (ba.fld hpo (au.own (i:=0) s45 rfl)).1 ?_;rw[dx,aa,hnot];refine D9 (i:=0) s45 rfl side fun G48 s48=>?_;have hpo2:=hpo.side side;have ho0:=bm.own (i:=1) s48 rfl;show wv (ag T G48 aw (.ptr i8 [2] 2)) _;refine ae (iI (i:=2) s48 rfl ho0.leaf).2.2.1 ?_;refine ae (cj eP (au.own (i:=0) s48 rfl) (ba.fits hpo2)) ?_;refine wm (T:=T) (ts:=aw) (e:=aT) (si:=b8) (ie:=dS) (i:=1) cy rfl eP rfl (by decide) s48 rfl (ba.sz hpo2) (ba.okv _) (by decide) ?_ fun s57 G58 s58=>?_
     ·have:dS.bytes=56:=rfl;have h2:=DL side l (x+1);rw[htt,List.length_append,List.length_singleton]at h2;rw[List.length_map,this,List.length_append];omega
     show wg (aF T G58 aw (.ptr i8 [2] 2) s57) _;refine GQ (i:=2) s58 rfl ho0.leaf.1 (bm.own (i:=1) s58 rfl).leaf fun G60 s60=>?_;rw[bg,aa,i64_in (by omega) (by omega)];refine ih (x+1) s57 G60 (by omega) (by omega) ?_;rw[htt,<- List.append_assoc,List.map_append];exact s60.erase 0
    ·have hne:p.ours=side:=(by simpa using h);rw[if_pos hne,List.append_nil]at htt;rw[bg,aa,i64_in (by omega) (by omega)];refine ih (x+1) s G45 (by omega) (by omega) ?_;rw[htt];exact s45.erase 0
  refine lp _ 0 s G' rfl (by omega) ?_;simpa[kW] using hs
 refine hR11 _ _ _ _ _ ?_;rw[aM,aa,aI];refine⟨fun _=>?_,fun h=>absurd (by decide) h⟩;refine inner true 0 [] G10 .nilSlice (by simpa using we true l) (by decide) s12 fun G' s hs=>?_;refine hR11 _ _ _ _ _ ?_;rw[aM,aa,aI];refine⟨fun _=>?_,fun h=>absurd (by decide) h⟩;refine inner false (IntKind.i64.wrap (0+1)) ([]++kW true l) G' s (by have:=pI l;rw[pE,List.length_append]at this;simp;omega) (by decide) hs fun G' s hs=>?_;refine hR11 _ _ _ _ _ ?_;rw[aM,aa,aI];refine⟨fun h=>absurd h (by decide),fun _=>?_⟩;have ho0:=bm.own (i:=0) hs rfl;refine ae (iI (i:=1) hs rfl ho0.leaf).2.2.2 ?_;refine nN (i:=2) hs rfl rfl ho0.leaf fun G65 s65=>?_;refine ae (iI (i:=2) s65 rfl ho0.leaf).2.2.2 ?_;exact hQ s _ (((s65.erase 1).erase 1).erase 1)
end
end Go.Esc.M
namespace Go.Esc.M
open Go Go.Esc
def z32:List UInt8:=List.replicate 32 0
def p1:ba:=⟨true,3,9,z32⟩
def h7:List UInt8:=7::List.replicate 31 0
def c1:Com:=⟨1,5,h7,10,20,[p1]⟩
theorem idx {l:List UInt8}{j:Nat}{b:UInt8}(h:l[j]?=some b):pz T bH (.str l) (.int .i64 (j:Nat))=some (.int .u8 (b.toNat:Nat)):=by
 obtain⟨hj,rfl⟩:=List.getElem?_eq_some_iff.1 h;exact E5 hj
theorem Co {o q:Int}{v:ah}(hv:sz v=1):bj T aX [(0,.int .i64 o),(1,.int .i64 q),(2,v)]=some (gH o q v):=by
 have hf:∀ pl:Nat->Option (Nat×Nat),pl 0=some (0,1)->pl 1=some (1,1)->pl 2=some (2,1)->nx pl [.int .i64 0,.int .i64 0,.nilSlice] [(0,.int .i64 o),(1,.int .i64 q),(2,v)]=some [.int .i64 o,.int .i64 q,v]:=by
  intro pl e0 e1 e2;simp[nx,e0,e1,e2,sz,szs,hv]
 have ha:[(aq,0),(aq,1),(aw,2)].all (fun g=>(T g.1).isSome)=true:=rfl;have hf:=hf (places T [(aq,0),(aq,1),(aw,2)]) rfl rfl rfl;unfold bj;have e1:lN.desc=.struct [(aq,0),(aq,1),(aw,2)]:=rfl;have e2:lN.zero=.agg [.int .i64 0,.int .i64 0,.nilSlice]:=rfl;simp only[ng,e1,e2,ha,if_true,hf];rfl
section
variable {F0:List AId}{G0 G:ak}{ps:List LP}{Q:ah->ak->Prop}
end
end Go.Esc.M
namespace Go.Esc.M
open Go Go.Esc
def mark:ba:=⟨false,-77,0,z32⟩
structure MN (w v:ah) (l:List ba):Prop where
 own:∀ {G:ak},Own 35 G v ((l++[mark]).map ba.av)->Own 35 G w (l.map ba.av)
 back:dV T aw w none (some (.int .i64 ((l.length+1:Nat):Int))) none=some v
section
variable {F0:List AId}{G0 G:ak}{ps:List LP}{Q:ah->ak->Prop}
end
end Go.Esc.M
namespace Go.Esc.M
open Go Go.Esc
def mk (n:Int) (p:ba):ba:=⟨p.ours,n+1+p.id % 4,1+p.amount % 576460752303423488,p.hash⟩
section
variable {F0:List AId}{G0 G:ak}{ps:List LP}{Q:ah->ak->Prop}
end
end Go.Esc.M
namespace Go.Esc.M
open Go Go.Esc
def Asc:Int->List ba->Prop
 | _,[]=>True
 | n,p::l=>n<p.id/\1≤p.amount/\p.amount≤jb/\Asc p.id l
theorem K3:∀ (l:List ba) (lt lf:Int) (ct:Nat) (r:List ba),Asc lt l->(∀ p∈l,p.ours=true)->∃ lt',mR lt lf ct 0 (l++r)=mR lt' lf (ct+l.length) 0 r
 | [],lt,lf,ct,r,_,_=>⟨lt,rfl⟩
 | p::l,lt,lf,ct,r,h,ho=>by
  obtain⟨h1,h2,h3,h4⟩:=h;have e:p.ours=true:=ho p (by simp);obtain⟨lt',h5⟩:=K3 l p.id lf (ct+1) r h4 fun q hq=>ho q (by simp[hq]);refine⟨lt',?_⟩;rw[List.cons_append,mR,e,cond_true,if_neg (by omega),cond_true,h5,List.length_cons,show ct+1+l.length=ct+(l.length+1) by omega]
theorem K4:∀ (l:List ba) (lt lf:Int) (ct cf:Nat),Asc lf l->(∀ p∈l,p.ours=false)->mR lt lf ct cf l=some (ct,cf+l.length)
 | [],lt,lf,ct,cf,_,_=>rfl
 | p::l,lt,lf,ct,cf,h,ho=>by
  obtain⟨h1,h2,h3,h4⟩:=h;have e:p.ours=false:=ho p (by simp);rw[mR,e,cond_false,if_neg (by simp only[Bool.false_eq_true,false_and,or_false];omega),cond_false,K4 l lt p.id ct (cf+1) h4 fun q hq=>ho q (by simp[hq]),List.length_cons,show cf+1+l.length=cf+(l.length+1) by omega]
def side (b:Bool) (l:List ba):List ba:=l.map (fun p=>{ p with ours:=b })
theorem vJ (b:Bool) (l m:List ba):kW b (l++m)=kW b l++kW b m:=by simp[kW]
section
variable {F0:List AId}{G0 G:ak}{ps:List LP}{Q:ah->ak->Prop}
end
end Go.Esc.M
namespace Go.Esc.M
open Go Go.Esc
def m1:ba:=⟨false,-1,0,z32⟩
def m2:ba:=⟨false,-2,0,z32⟩
section
variable {F0:List AId}{G0 G:ak}{ps:List LP}{Q:ah->ak->Prop}
theorem Kr {i j:Nat}{v:ah}{l:List ba}{p:ba}(hs:Sp F0 G0 ps G) (hi:ps[i]?=some (bm 35 v (l.map ba.av))) (hj:j<l.length) (hp:p.ok) :
  ∃ a,aO T aw v (.int .i64 (j:Int))=some a/\∀ K:ak->Prop,(∀ G',Sp F0 G0 (ps.set i (bm 35 v ((l.set j p).map ba.av))) G'->K G')->wg (aF T G aT a p.av) K:=by
 have ho:=bm.own hs hi;rcases ho with ⟨_,h⟩|⟨id,len,cap,cs,rfl,hg,hc,hl,hu,he⟩
 ·rw[List.map_eq_nil_iff]at h;rw[h]at hj;simp at hj
 ·have hlen:len=l.length:=by
   have:=congrArg List.length he;simp only[List.length_map,List.length_take]at this;omega
  obtain⟨a,ha,hst⟩:=GI (T:=T) (t:=aw) (e:=aT) (i:=b8) (ie:=dS) (cap:=cap) (k:=.i64) (c:=p.av) cy rfl eP hg hu (show j<len by omega) (by omega) (ba.sz hp) rfl (ba.okv p);refine⟨a,ha,fun K hK=>fg hst (hK _ ?_)⟩;refine hs.call hi (bm 35 (.slice id [] 0 0 len cap) ((l.set j p).map ba.av)) fun F h k=>?_;obtain⟨_,rfl⟩:=h;refine k _ _ ⟨.inr ⟨id,len,cap,cs.set j p.av,rfl,ak.dR _ _ _,by rw[List.length_set];exact hc,hl,CG hu (ba.sz hp),?_⟩,rfl⟩ (sZ hg (by simp));rw[List.map_set,he,List.take_set]
end
end Go.Esc.M
namespace Go.Esc.M
open Go Go.Esc
structure aL where
 kind:Int
 id:Int
 amount:Int
 hash:List UInt8
 note:List UInt8
 deriving DecidableEq
def h0:List UInt8:=List.replicate 32 0
theorem oe:h0.length=32:=rfl
def aL.cs (u:aL):List ah:=[.int .i64 u.kind,.int .i64 u.id,.int .i64 u.amount,.agg (u.hash.map u8v),.str u.note]
def aL.av (u:aL):ah:=.agg u.cs
def aL.zero:aL:=⟨0,0,0,h0,[]⟩
structure aL.ok (u:aL):Prop where
 kind:I64 u.kind
 id:I64 u.id
 amount:I64 u.amount
 hash:u.hash.length=32
 note:u.note.length≤9223372036854775807
theorem aL.bq:aL.zero.ok:=⟨⟨by decide,by decide⟩,⟨by decide,by decide⟩,⟨by decide,by decide⟩,rfl,by decide⟩
theorem szh {h:List UInt8}(hl:h.length=32):szs (h.map u8v)=32:=by rw[gX (n:=1) (kd h)];simp[hl]
theorem aL.sz {u:aL}(h:u.ok):Esc.sz u.av=36:=by simp[aL.av,aL.cs,Esc.sz,szs,szh h.hash]
theorem aL.fits {u:aL}(h:u.ok):dD cG u.av=true:=by
 have h1:=aL.sz h;have h2:u.av.isAgg=true:=rfl;simp[dD,h1,h2,cG,kZ.isAgg]
theorem aL.okv (u:aL):Esc.okv u.av=true:=by simp[aL.av,aL.cs,Esc.okv,mz,kM]
theorem gm {h:List UInt8}(hl:h.length=32):dD dQ (.agg (h.map u8v))=true:=by simp[dD,Esc.sz,szh hl,dQ,ah.isAgg,kZ.isAgg]
section
variable {F0:List AId}{G0 G:ak}{ps:List LP}{i:Nat}{id:AId}{u:aL}
theorem bF (hs:Sp F0 G0 ps G) (hi:ps[i]?=some (au id u.av)) (h:u.ok) :
  ag T G ay (.ptr id [0] 0)=some (.int .i64 u.kind)/\ag T G aq (.ptr id [1] 1)=some (.int .i64 u.id)/\ag T G aq (.ptr id [2] 2)=some (.int .i64 u.amount)/\ag T G ar (.ptr id [3] 3)=some (.agg (u.hash.map u8v))/\ag T G bH (.ptr id [4] 35)=some (.str u.note)/\ag T G aG (.ptr id [] 0)=some u.av:=by
 have hg:=au.own hs hi;refine⟨dI (c:=.int .i64 u.kind) hg rfl rfl rfl iD rfl,dI (c:=.int .i64 u.id) hg rfl rfl rfl cu rfl,dI (c:=.int .i64 u.amount) hg rfl rfl rfl cu rfl,dI (c:=.agg (u.hash.map u8v)) hg rfl rfl rfl bZ (gm h.hash),dI (c:=.str u.note) hg rfl ?_ rfl fS rfl,cj dE hg (aL.fits h)⟩;simp[aL.cs,szs,Esc.sz,szh h.hash]
theorem jY {u':aL}(hs:Sp F0 G0 ps G) (hi:ps[i]?=some (au id u.av)) (h:u.ok) (h':u'.ok) {K:ak->Prop}(hK:∀ G',Sp F0 G0 (ps.set i (au id u'.av)) G'->K G'):wg (aF T G aG (.ptr id [] 0) u'.av) K:=by
 refine fg (ig dE (au.own hs hi) (aL.fits h') (by rw[aL.sz h,aL.sz h']) (aL.okv _)) ?_;exact hK _ (Sp.setRow hs hi _)
end
def Ek:Int:=1152921504606846976
def dp (u:aL):Bool:=
 decide (0≤u.id) && (decide (u.id<2048) && (if u.kind=1 then decide (1≤u.amount) && (decide (u.amount≤Ek) && decide (u.note=[]))
  else if u.kind=2 then decide (u.amount=0) && decide (u.note=[])
  else if u.kind=3 then decide (u.amount=0) && (decide (u.hash=h0) && decide (u.note.length≤64)) else false))
section
variable {G:ak}{Q:ah->ak->Prop}
theorem ED:bj T ar []=some (.agg (h0.map u8v)):=rfl
theorem Ev {a b:List UInt8}(ha:a.length=32) (hb:b.length=32):az T .eql ar (.agg (a.map u8v)) (.agg (b.map u8v))=some (.bool (decide (a=b))):=
 wT (i:=dQ) (ie:=gi) (n:=32) bZ rfl cW rfl rfl ha hb
theorem qg {a b:List UInt8}(ha:a.length=32) (hb:b.length=32):az T .neq ar (.agg (a.map u8v)) (.agg (b.map u8v))=some (.bool (!decide (a=b))):=
 Bu (i:=dQ) (ie:=gi) (n:=32) bZ rfl cW rfl rfl ha hb
theorem gj.use {u:aL}(h:u.ok) (hQ:∀ G',Ch [] G [] G'->Q (.bool (dp u)) G'):al P gj.n [u.av] G Q:=by
 refine gj.sound ?_;unfold gj.S;obtain⟨mA,hmA⟩:∃ m,m=(1152921504606846976:Int):=⟨_,rfl⟩;rw[<- hmA];have hmax:Ek=mA:=by rw[hmA];rfl
 unfold dp at hQ;rw[hmax]at hQ;clear hmax hmA;intro i1 f1;have s1:=(Sp.nil G).row f1 u.av;obtain⟨l0,l1,l2,l3,l4,_⟩:=bF (i:=0) s1 rfl h;have hQ:=hQ _ s1.ch;revert hQ l0 l1 l2 l3 l4;generalize G.upd i1 (.own u.av)=G2;intro l0 l1 l2 l3 l4 hQ J37;have bad:(decide (0≤u.id) && decide (u.id<2048))=false->J37 (.bool true) G2:=by
  intro hb;simp -zeta only [J37,aN];rw[<- Bool.and_assoc,hb,Bool.false_and]at hQ;exact hQ
 have lK:0≤u.id->u.id<2048->J37 (.bool false) G2:=by
  intro h0 h1;rw[dT_ h0,dT_ h1,Bool.true_and,Bool.true_and]at hQ;simp -zeta only [J37,aK];rw[l0,aa,bB,aa,aI];refine⟨fun hk=>?_,fun hk1=>?_⟩
  ·rw[if_pos hk]at hQ;rw[l2,aa,fI,aa,aI];refine⟨fun ha=>?_,fun ha=>by rwa [dF_ ha,Bool.false_and]at hQ⟩;rw[dT_ ha,Bool.true_and]at hQ;rw[aa,kQ,aa,aI];refine⟨fun hb=>?_,fun hb=>by rwa [dF_ hb,Bool.false_and]at hQ⟩;rw[dT_ hb,Bool.true_and]at hQ;rw[l4,aa,pL,aa];exact hQ
  rw[if_neg hk1]at hQ;rw[bB,aa,aI];refine⟨fun hk=>?_,fun hk2=>?_⟩
  ·rw[if_pos hk]at hQ;rw[l2,aa,bB,aa,aI];refine⟨fun ha=>?_,fun ha=>by rwa [dF_ ha,Bool.false_and]at hQ⟩;rw[dT_ ha,Bool.true_and]at hQ;rw[l4,aa,pL,aa];exact hQ
  rw[if_neg hk2]at hQ;rw[bB,aa,aI];refine⟨fun hk=>?_,fun hk3=>?_⟩
  ·rw[if_pos hk]at hQ;rw[l2,aa,bB,aa,aI];refine⟨fun ha=>?_,fun ha=>by rwa [dF_ ha,Bool.false_and]at hQ⟩;rw[dT_ ha,Bool.true_and]at hQ;rw[l3,aa,ED,aa,Ev h.hash oe,aa,aI];refine⟨fun hb=>?_,fun hb=>by rwa [dF_ hb,Bool.false_and]at hQ⟩;rw[dT_ hb,Bool.true_and]at hQ;rw[l4,aa];show wv (some (.int .i64 (u.note.length:Nat))) _;rw[aa,kQ,aa];have:decide (((u.note.length:Nat):Int)≤64)=decide (u.note.length≤64):=(by rw[decide_eq_decide];omega);rw[this];exact hQ
  ·rwa [if_neg hk3]at hQ
 rw[l1,aa,aM,aa,aI];refine⟨fun hb=>bad (by rw[dF_ (by omega),Bool.false_and]),fun h0=>?_⟩;rw[aa,fI,aa];by_cases h1:(2048:Int)≤u.id
 ·rw[dT_ h1];exact bad (by rw[dF_ (show ¬ u.id<2048 by omega),Bool.and_false])
 ·rw[dF_ h1];exact lK (by omega) (by omega)
theorem dz.use {u:aL}(h:u.ok) (hQ:∀ G',Ch [] G [] G'->Q (.bool (dp u)) G'):al P dz.n [u.av] G Q:=by
 refine dz.sound ?_;unfold dz.S;obtain⟨mA,hmA⟩:∃ m,m=(1152921504606846976:Int):=⟨_,rfl⟩;rw[<- hmA];have hmax:Ek=mA:=by rw[hmA];rfl
 unfold dp at hQ;rw[hmax]at hQ;clear hmax hmA;rw[mF];intro i1 f1;have s1:=(Sp.nil G).row f1 u.av;refine ae ED ?_;intro i4 f4;have s4:=s1.row f4 (.agg ((List.replicate 32 (0:UInt8)).map u8v));refine sq (i:=0) (h':=h0) s4 rfl Lg oe fun G2 s6=>?_;obtain⟨l0,l1,l2,l3,l4,_⟩:=bF (i:=1) s6 rfl h;have l5:=bM oe (au.own (i:=0) s6 rfl);have hQ:=hQ _ s6.ch;revert l0 l1 l2 l3 l4 l5 hQ;intro l0 l1 l2 l3 l4 l5 hQ J41;have bad:(decide (0≤u.id) && decide (u.id<2048))=false->J41 (.bool true) G2:=by
  intro hb;simp -zeta only [J41,aN];rw[<- Bool.and_assoc,hb,Bool.false_and]at hQ;exact hQ
 have lK:0≤u.id->u.id<2048->J41 (.bool false) G2:=by
  intro h0 h1;rw[dT_ h0,dT_ h1,Bool.true_and,Bool.true_and]at hQ;simp -zeta only [J41,aK];rw[l0,aa,bB,aa,aI];refine⟨fun hk=>?_,fun hk1=>?_⟩
  ·rw[if_pos hk]at hQ;rw[l2,aa,fI,aa,aI];refine⟨fun ha=>?_,fun ha=>by rwa [dF_ ha,Bool.false_and]at hQ⟩;rw[dT_ ha,Bool.true_and]at hQ;rw[aa,kQ,aa,aI];refine⟨fun hb=>?_,fun hb=>by rwa [dF_ hb,Bool.false_and]at hQ⟩;rw[dT_ hb,Bool.true_and]at hQ;rw[l4,aa,pL,aa];exact hQ
  rw[if_neg hk1]at hQ;rw[bB,aa,aI];refine⟨fun hk=>?_,fun hk2=>?_⟩
  ·rw[if_pos hk]at hQ;rw[l2,aa,bB,aa,aI];refine⟨fun ha=>?_,fun ha=>by rwa [dF_ ha,Bool.false_and]at hQ⟩;rw[dT_ ha,Bool.true_and]at hQ;rw[l4,aa,pL,aa];exact hQ
  rw[if_neg hk2]at hQ;rw[bB,aa,aI];refine⟨fun hk=>?_,fun hk3=>?_⟩
  ·rw[if_pos hk]at hQ;rw[l2,aa,bB,aa,aI];refine⟨fun ha=>?_,fun ha=>by rwa [dF_ ha,Bool.false_and]at hQ⟩;rw[dT_ ha,Bool.true_and]at hQ;rw[l3,aa,l5,aa,Ev h.hash oe,aa,aI];refine⟨fun hb=>?_,fun hb=>by rwa [dF_ hb,Bool.false_and]at hQ⟩;rw[dT_ hb,Bool.true_and]at hQ;rw[l4,aa];show wv (some (.int .i64 (u.note.length:Nat))) _;rw[aa,kQ,aa];have:decide (((u.note.length:Nat):Int)≤64)=decide (u.note.length≤64):=(by rw[decide_eq_decide];omega);rw[this];exact hQ
  ·rwa [if_neg hk3]at hQ
 rw[l1,aa,aM,aa,aI];refine⟨fun hb=>bad (by rw[dF_ (by omega),Bool.false_and]),fun h0=>?_⟩;rw[aa,fI,aa];by_cases h1:(2048:Int)≤u.id
 ·rw[dT_ h1];exact bad (by rw[dF_ (show ¬ u.id<2048 by omega),Bool.and_false])
 ·rw[dF_ h1];exact lK (by omega) (by omega)
end
end Go.Esc.M
namespace Go.Esc
open Go Go.RowKit
def bE (a b:Int):ah:=.agg [.int .i64 a,.int .i64 b]
def bw (v:ah):Prop:=sz v=1/\v.isAgg=false/\okv v=true
theorem bw.nil:bw .nilSlice:=⟨rfl,rfl,rfl⟩
theorem rW:∀ l:List ah,szs l=(l.map sz).sum
 | []=>rfl
 | v::l=>by rw[po,rW l];simp
theorem kF {v:ah}{ti:TI}(h:bw v) (ht:(Nat.beq ti.size 1 && !ti.desc.isAgg)=true):dD ti v=true:=by
 simp only[Bool.and_eq_true,Bool.not_eq_true']at ht;have:=Nat.eq_of_beq_eq_true ht.1;simp[dD,h.1,h.2.1,this,ht.2]
section
variable {T:Tbl}{G:ak}{id:AId}{cs ds:List ah}{ss ss2:List Nat}{k j o o2 oo:Nat}{c u:ah}{t:TypeId}{ti:TI}
theorem pA (h:cs.map sz=ss) (ho:(ss.take k).sum=o):szs (cs.take k)=o:=by
 rw[rW,List.map_take,h,ho]
theorem ld1 (hg:G id=some (.own (.agg cs))) (hs:cs.map sz=ss) (ho:(ss.take k).sum=o) (hc:cs[k]?=some c) (ht:T t=some ti) (hf:dD ti c=true):ag T G t (.ptr id [k] o)=some c:=
 dI hg rfl (pA hs ho) hc ht hf
theorem ld2 (hg:G id=some (.own (.agg cs))) (hs:cs.map sz=ss) (ho:(ss.take k).sum=o) (hc:cs[k]?=some (.agg ds)) (hs2:ds.map sz=ss2) (ho2:(ss2.take j).sum=o2) (hc2:ds[j]?=some c) (hoo:o+o2=oo) (ht:T t=some ti) (hf:dD ti c=true) :
  ag T G t (.ptr id [k,j] oo)=some c:=by
 subst hoo;have e1:=pA hs ho;have e2:=pA hs2 ho2;simp[ag,nI,hg,mQ,sub,e1,e2,hc,hc2,ht,hf]
theorem st1 (hg:G id=some (.own (.agg cs))) (hs:cs.map sz=ss) (ho:(ss.take k).sum=o) (hc:cs[k]?=some u) (ht:T t=some ti) (hf:dD ti c=true) (hsz:sz u=sz c) (hok:okv c=true) :
  aF T G t (.ptr id [k] o) c=some (G.upd id (.own (.agg (cs.set k c)))):=mG hg (pA hs ho) hc ht hf hsz hok
theorem st2 (hg:G id=some (.own (.agg cs))) (hs:cs.map sz=ss) (ho:(ss.take k).sum=o) (hc:cs[k]?=some (.agg ds)) (hs2:ds.map sz=ss2) (ho2:(ss2.take j).sum=o2) (hc2:ds[j]?=some u) (hoo:o+o2=oo) (ht:T t=some ti) (hf:dD ti c=true) (hsz:sz u=sz c) (hok:okv c=true) :
  aF T G t (.ptr id [k,j] oo) c=some (G.upd id (.own (.agg (cs.set k (.agg (ds.set j c)))))):=by
 subst hoo;have e1:=pA hs ho;have e2:=pA hs2 ho2;simp[aF,hg,sub,e1,e2,hc,hc2,ht,hf,hsz,hok,putAt]
end
end Go.Esc
namespace Go.Esc.M
open Go Go.Esc
def mT (a b:List UInt8):ah:=.agg [.agg (a.map u8v),.agg (b.map u8v)]
theorem su {a b:List UInt8}(ha:a.length=32) (hb:b.length=32):dD mr (mT a b)=true:=by
 simp[dD,mT,Esc.sz,szs,szh ha,szh hb,mr,ah.isAgg,kZ.isAgg]
end Go.Esc.M
