import Derived.Test.YtkojimdacnohpaaGreatDoorLRO
import Derived.Test.YtkojimdacnohpaaGreatDoorLDe
import Derived.Test.YtkojimdacnohpaaGreatDoorLCo
import Derived.Test.YtkojimdacnohpaaGreatDoorLSf
set_option maxHeartbeats 2000000
set_option linter.unusedSimpArgs false
set_option linter.unusedVariables false
set_option maxRecDepth 20000
namespace Go.Esc.M
open Go Go.Esc
theorem lW {u:aL}(h:dp u=true):0≤u.id/\u.id<2048/\((u.kind=1/\1≤u.amount/\u.amount≤1152921504606846976/\u.note=[])\/(u.kind=2/\u.amount=0/\u.note=[])\/(u.kind=3/\u.amount=0/\u.hash=h0/\u.note.length≤64)):=by
 unfold dp Ek at h;simp only[Bool.and_eq_true,decide_eq_true_eq]at h;obtain⟨h1,h2,h3⟩:=h;refine⟨h1,h2,?_⟩;split at h3
 ·simp only[Bool.and_eq_true,decide_eq_true_eq]at h3;rename_i hk;exact .inl ⟨hk,h3.1,h3.2.1,h3.2.2⟩
 split at h3
 ·simp only[Bool.and_eq_true,decide_eq_true_eq]at h3;rename_i hk;exact .inr (.inl ⟨hk,h3.1,h3.2⟩)
 split at h3
 ·simp only[Bool.and_eq_true,decide_eq_true_eq]at h3;rename_i hk;exact .inr (.inr ⟨hk,h3.1,h3.2.1,h3.2.2⟩)
 ·cases h3
section
variable {F0:List AId}{G0 G:ak}{ps:List LP}{Q:ah->ak->Prop}
theorem BH {i:AId}{u:aL}(h:u.ok) (hg:G i=some (.own u.av)):∃ x,dV T ar (.ptr i [3] 3) none none none=some x/\ff 1 G x (u.hash.map u8v):=by
 have e1:T ar=some dQ:=bZ;have e2:dQ.desc=.array 32 cm:=rfl;refine⟨.slice i [3] 0 3 32 32,by simp[dV,e1,e2,cW,j8,lH,gi],.inl ⟨_,_,_,_,_,_,rfl,?_⟩⟩;have hh:=h.hash;have ha:lO G 1 i [3] 0 3=some (u.hash.map u8v):=by
  simp[lO,nI,hg,mQ,aL.av,aL.cs,sub,szs,Esc.sz,kd]
 rw[gq,ha];simp[hh,List.take_of_length_le]
end
end Go.Esc.M
namespace Go.Esc.M
open Go Go.Esc
def okU (u:aL) (n:Nat):aL×Int×Int:=bif dp u then (u,(n:Int),0) else (aL.zero,0,120)
theorem MI {k i a:Int}{h n:List UInt8}(hk:I64 k) (hi:I64 i) (ha:I64 a) (hh:h.length=32) (hn:n.length≤9223372036854775807):(⟨k,i,a,h,n⟩:aL).ok:=⟨hk,hi,ha,hh,hn⟩
theorem cL:I64 0:=⟨by decide,by decide⟩
theorem tk {b:List UInt8}{a n:Nat}{nn:Int}(hn:nn=(n:Int)) (ha:a≤b.length):takes (b.drop a,0) nn=if a+n≤b.length then (slice b a n,(b.drop (a+n),0)) else ([],([],2)):=by
 by_cases h:a+n≤b.length
 ·rw[if_pos h,IF hn h]
 ·rw[if_neg h,DP (by rw[List.length_drop];omega)]
theorem Dq:dv=aL.zero.av:=rfl
theorem sF:bj T aG []=some aL.zero.av:=rfl
section
variable {F0:List AId}{G0 G:ak}{ps:List LP}{Q:ah->ak->Prop}
end
end Go.Esc.M
namespace Go.Esc.M
open Go Go.Esc
section
variable {F0:List AId}{G0 G:ak}{ps:List LP}{Q:ah->ak->Prop}
end
end Go.Esc.M
namespace Go.Esc.M
open Go Go.Esc
def uE (rm:Bool) (id:Int) (u:aL):Bool:=decide (u.id=id) && bif rm then decide (u.kind=2) || decide (u.kind=3) else decide (u.kind=1)
def ey (rm:Bool) (id:Int) (l:List aL):Option aL:=l.find? (uE rm id)
def Ec (o:Option aL):ah:=.tuple [(o.getD aL.zero).av,.bool o.isSome]
def oQ (l:List aL):Nat:=(l.filter (fun u=>decide (u.kind=1))).length
theorem lT {rm:Bool}{id:Int}{l:List aL}(h:∀ u∈l,u.ok):((ey rm id l).getD aL.zero).ok:=by
 cases hf:ey rm id l with
 | none=>exact aL.bq
 | some u=>exact h u (List.mem_of_find?_eq_some hf)
theorem A9 {l:List aL}{j:Nat}{u:aL}(h:l[j]?=some u):oQ (l.take (j+1))=oQ (l.take j)+(if u.kind=1 then 1 else 0):=by
 rw[List.take_add_one,h];unfold oQ;rw[List.filter_append,List.length_append];by_cases hk:u.kind=1<;>simp[hk]
theorem EN (l:List aL):oQ l≤l.length:=List.length_filter_le _ _
section
variable {F0:List AId}{G0 G:ak}{ps:List LP}{Q:ah->ak->Prop}
theorem nD {v:ah}{l:List aL}{j:Nat}{u:aL}(h:ff 36 G v (l.map aL.av)) (hj:l[j]?=some u):∃ a,aO T aj v (.int .i64 (j:Int))=some a/\ag T G aG a=some u.av:=
 h.at_ (k:=.i64) (i:=dL) (ie:=cG) (T:=T) (t:=aj) (e:=aG) bT rfl dE (by rw[List.getElem?_map,hj];rfl) rfl
theorem dh {v:ah}{l:List aL}(h:ff 36 G v (l.map aL.av)):fU T G aj v=some (.int .i64 (l.length:Nat)):=by
 rw[h.len (i:=dL) bT rfl,List.length_map]
theorem vX {u:aL}{K:AId->ak->Prop}(hs:Sp F0 G0 ps G) (hu:u.ok) (hK:∀ i G',Sp F0 G0 (au i u.av::ps) G'->K i G'):br G (.own dv) fun i G2=>wg (aF T G2 aG (.ptr i [] 0) u.av) fun G3=>K i G3:=
 jL hs dE (aL.fits hu) (by rw[aL.sz hu];rfl) (aL.okv u) hK
theorem z6 (o:Option aL):aP (Ec o) 0=some (o.getD aL.zero).av:=rfl
theorem zZ (o:Option aL):aP (Ec o) 1=some (.bool o.isSome):=rfl
end
end Go.Esc.M
namespace Go.Esc.M
open Go Go.Esc
theorem KL {p p':aL}(h:p.ok) (h':p'.ok):eqF T (kV T 8) [(ay,0),(aq,1),(aq,2),(ar,3),(bH,35)] p.cs p'.cs 0=some (decide (p=p')):=by
 have z1:=gm h.hash;have z2:=gm h'.hash;have q2:∀ m n:Int,kV T 8 aq (.int .i64 m) (.int .i64 n)=some (decide (m=n)):=fun m n=>by
  rw[kV];simp only[cu];rfl
 have q1:∀ m n:Int,kV T 8 ay (.int .i64 m) (.int .i64 n)=some (decide (m=n)):=fun m n=>by
  rw[kV];simp only[iD];rfl
 have q4:∀ m n:List UInt8,kV T 8 bH (.str m) (.str n)=some (decide (m=n)):=fun m n=>by
  rw[kV];simp only[fS];rfl
 have v1:∀ m:Int,dD nc (.int .i64 m)=true:=fun m=>rfl;have v2:∀ m:Int,dD iZ (.int .i64 m)=true:=fun m=>rfl;have v4:∀ m:List UInt8,dD iO (.str m)=true:=fun m=>rfl;have s1:nc.size=1:=rfl;have s2:iZ.size=1:=rfl;have s3:dQ.size=32:=rfl;have q3:=zu h.hash h'.hash;obtain⟨a,b,c,d,e⟩:=p;obtain⟨a',b',c',d',e'⟩:=p';dsimp only at z1 z2 q3;simp only[aL.cs,eqF,iD,cu,bZ,fS,v1,v2,v4,z1,z2,s1,s2,s3,Nat.zero_add,q1,q2,q3,q4,beq_self_eq_true,Bool.and_self,Nat.reduceAdd,if_true];by_cases h1:a=a'
 ·subst h1;by_cases h2:b=b'
  ·subst h2;by_cases h3:c=c'
   ·subst h3;by_cases h4:d=d'
    ·subst h4;by_cases h5:e=e'
     ·subst h5;simp
     ·simp[h5]
    ·simp[h4]
   ·simp[h3]
  ·simp[h2]
 ·simp[h1]
theorem Gn {p p':aL}(h:p.ok) (h':p'.ok):kV T 9 aG p.av p'.av=some (decide (p=p')):=by
 rw[<- KL h h',kV];have e1:cG.desc=.struct [(ay,0),(aq,1),(aq,2),(ar,3),(bH,35)]:=rfl;simp only[dE,e1];rfl
theorem Hs {p p':aL}(h:p.ok) (h':p'.ok):az T .neq aG p.av p'.av=some (.bool (!decide (p=p'))):=by
 have:=Gn h h';unfold aL.av at this ⊢;simp only[az,this]
section
variable {F0:List AId}{G0 G:ak}{ps:List LP}{Q:ah->ak->Prop}
end
end Go.Esc.M
namespace Go.Esc.M
open Go Go.Esc
end Go.Esc.M
namespace Go.Esc.M
open Go Go.Esc
section
variable {F0:List AId}{G0 G:ak}{ps:List LP}{Q:ah->ak->Prop}
theorem jZ {v:ah}{l:List aL}{j f o:Nat}{p:aL}{tf:TypeId}{fi:TI}{c:ah}(h:ff 36 G v (l.map aL.av)) (hj:l[j]?=some p) (hf:[(ay,0),(aq,1),(aq,2),(ar,3),(bH,35)][f]?=some (tf,o)) (hft:T tf=some fi) (hz:fi.size≠0)
  (hs:szs (p.cs.take f)=o) (hc:p.cs[f]?=some c) (hfit:dD fi c=true) :
  ∃ a b,aO T aj v (.int .i64 (j:Int))=some a/\bt T aG a f=some b/\ag T G tf b=some c:=
 ff.fld (k:=.i64) (i:=dL) (ie:=cG) bT rfl dE rfl hf hft hz h (by rw[List.getElem?_map,hj];rfl) hs hc hfit
theorem gf.use {v:ah}{l:List aL}{id:Int}(hl:ff 36 G v (l.map aL.av)) (hok:∀ u∈l,u.ok) (hlen:l.length≤9223372036854775807) (hQ:∀ G',Ch [] G [] G'->Q (Ec (ey false id l)) G') :
  al P gf.n [v,.int .i64 id] G Q:=by
 refine gf.sound ?_;unfold gf.S;rw[Dq];intro i1 f1;have s1:=(Sp.nil G).row f1 aL.zero.av;revert s1;generalize ak.upd _ i1 (.own aL.zero.av)=G2;intro s1 R hR;have loop:∀ (n j:Nat),l.length-j=n->j≤l.length->ey false id (l.drop j)=ey false id l->R [v,.int .i64 id,.ptr i1 [] 0,.int .i64 (j:Int)] G2:=by
  intro n;induction n with
  | zero=>
   intro j hn hj he;have:j=l.length:=(by omega);subst this;rw[List.drop_length]at he;refine hR _ _ _ _ _ ?_;refine ae (dh (hl.ch' s1.ch)) ?_;rw[aM,aa,aI];refine⟨fun h=>absurd h (by omega),fun _=>?_⟩;rw[sF,aa];refine jY (i:=0) s1 rfl aL.bq aL.bq fun G2 s2=>?_;refine ae (bF (i:=0) s2 rfl aL.bq).2.2.2.2.2 ?_;have:=hQ _ s2.ch;rw[<- he]at this;exact this
  | succ n ih=>
   intro j hn hj he;obtain⟨u,hu⟩:∃ u,l[j]?=some u:=⟨_,List.getElem?_eq_getElem (by omega)⟩;have huo:=hok u (List.mem_of_getElem? hu);obtain⟨a,ha,hla⟩:=nD (hl.ch' s1.ch) hu;obtain⟨a0,b0,ha0,hb0,hl0⟩:=jZ (f:=0) (o:=0) (tf:=ay) (fi:=nc) (hl.ch' s1.ch) hu rfl iD (by decide) rfl rfl rfl;obtain⟨a1,b1,ha1,hb1,hl1⟩:=jZ (f:=1) (o:=1) (tf:=aq) (fi:=iZ) (hl.ch' s1.ch) hu rfl cu (by decide) rfl rfl rfl;have hdr:l.drop j=u::l.drop (j+1):=by
    obtain⟨hx,rfl⟩:=List.getElem?_eq_some_iff.1 hu;exact List.drop_eq_getElem_cons hx
   rw[hdr,ey,List.find?_cons]at he;have next:uE false id u=false->wv (az T .add ay (.int .i64 (j:Int)) (.int .i64 1)) fun v31=>R [v,.int .i64 id,.ptr i1 [] 0,v31] G2:=by
    intro h;rw[h]at he;rw[bg,aa,i64_in (by omega) (by omega)];exact ih (j+1) (by omega) (by omega) he
   unfold uE at next he
   refine hR _ _ _ _ _ ?_;refine ae (dh (hl.ch' s1.ch)) ?_;rw[aM,aa,aI];refine⟨fun _=>?_,fun h=>absurd (by omega) h⟩;refine ae ha0 ?_;refine ae hb0 ?_;refine ae hl0 ?_;rw[bB,aa,aI];refine⟨fun hk=>?_,fun hk=>next (by rw[cond_false,dF_ hk,Bool.and_false])⟩;refine ae ha1 ?_;refine ae hb1 ?_;refine ae hl1 ?_;rw[bB,aa,aI];refine⟨fun hid=>?_,fun hid=>next (by rw[dF_ hid,Bool.false_and])⟩;rw[cond_false,dT_ hid,dT_ hk]at he;refine ae ha ?_;refine ae hla ?_;refine jY (i:=0) s1 rfl aL.bq huo fun G2 s2=>?_;refine ae (bF (i:=0) s2 rfl huo).2.2.2.2.2 ?_;have:=hQ _ s2.ch;rw[<- he]at this;exact this
 exact loop _ 0 rfl (by omega) (by simp)
theorem dZ.use {v:ah}{l:List aL}{id:Int}(hl:ff 36 G v (l.map aL.av)) (hok:∀ u∈l,u.ok) (hlen:l.length≤9223372036854775807) (hQ:∀ G',Ch [] G [] G'->Q (Ec (ey true id l)) G') :
  al P dZ.n [v,.int .i64 id] G Q:=by
 refine dZ.sound ?_;unfold dZ.S;rw[Dq];intro i1 f1;have s1:=(Sp.nil G).row f1 aL.zero.av;revert s1;generalize ak.upd _ i1 (.own aL.zero.av)=G2;intro s1 R hR;have loop:∀ (n j:Nat),l.length-j=n->j≤l.length->ey true id (l.drop j)=ey true id l->R [v,.int .i64 id,.ptr i1 [] 0,.int .i64 (j:Int)] G2:=by
  intro n;induction n with
  | zero=>
   intro j hn hj he;have:j=l.length:=(by omega);subst this;rw[List.drop_length]at he;refine hR _ _ _ _ _ ?_;refine ae (dh (hl.ch' s1.ch)) ?_;rw[aM,aa,aI];refine⟨fun h=>absurd h (by omega),fun _=>?_⟩;rw[sF,aa];refine jY (i:=0) s1 rfl aL.bq aL.bq fun G2 s2=>?_;refine ae (bF (i:=0) s2 rfl aL.bq).2.2.2.2.2 ?_;have:=hQ _ s2.ch;rw[<- he]at this;exact this
  | succ n ih=>
   intro j hn hj he;obtain⟨u,hu⟩:∃ u,l[j]?=some u:=⟨_,List.getElem?_eq_getElem (by omega)⟩;have huo:=hok u (List.mem_of_getElem? hu);obtain⟨a,ha,hla⟩:=nD (hl.ch' s1.ch) hu;obtain⟨a0,b0,ha0,hb0,hl0⟩:=jZ (f:=0) (o:=0) (tf:=ay) (fi:=nc) (hl.ch' s1.ch) hu rfl iD (by decide) rfl rfl rfl;obtain⟨a1,b1,ha1,hb1,hl1⟩:=jZ (f:=1) (o:=1) (tf:=aq) (fi:=iZ) (hl.ch' s1.ch) hu rfl cu (by decide) rfl rfl rfl;have hdr:l.drop j=u::l.drop (j+1):=by
    obtain⟨hx,rfl⟩:=List.getElem?_eq_some_iff.1 hu;exact List.drop_eq_getElem_cons hx
   rw[hdr,ey,List.find?_cons]at he;refine hR _ _ _ _ _ ?_;refine ae (dh (hl.ch' s1.ch)) ?_;rw[aM,aa,aI];refine⟨fun _=>?_,fun h=>absurd (by omega) h⟩;intro J33;have no:uE true id u=false->J33 (.bool false) G2:=by
    intro h;rw[h]at he;simp -zeta only [J33,aK];rw[bg,aa,i64_in (by omega) (by omega)];exact ih (j+1) (by omega) (by omega) he
   have yes:uE true id u=true->J33 (.bool true) G2:=by
    intro h;rw[h]at he;simp -zeta only [J33,aN];refine ae ha ?_;refine ae hla ?_;refine jY (i:=0) s1 rfl aL.bq huo fun G2 s2=>?_;refine ae (bF (i:=0) s2 rfl huo).2.2.2.2.2 ?_;have:=hQ _ s2.ch;rw[<- he]at this;exact this
   have idt:(u.kind=2\/u.kind=3)->J33 (.bool (decide (u.id=id))) G2:=by
    intro hk;have hkk:(decide (u.kind=2) || decide (u.kind=3))=true:=by
     rw[Bool.or_eq_true,decide_eq_true_eq,decide_eq_true_eq];exact hk
    unfold uE at yes no;rw[cond_true,hkk,Bool.and_true]at yes no;by_cases h:u.id=id
    ·rw[dT_ h];exact yes (dT_ h)
    ·rw[dF_ h];exact no (dF_ h)
   refine ae ha0 ?_;refine ae hb0 ?_;refine ae hl0 ?_;rw[bB,aa,aI];refine⟨fun hk=>?_,fun hk=>?_⟩
   ·refine ae ha1 ?_;refine ae hb1 ?_;refine ae hl1 ?_;rw[bB,aa];exact idt (.inl hk)
   ·refine ae ha0 ?_;refine ae hb0 ?_;refine ae hl0 ?_;rw[bB,aa,aI];refine⟨fun hk3=>?_,fun hk3=>no (by unfold uE;rw[cond_true,dF_ hk,dF_ hk3,Bool.or_self,Bool.and_false])⟩;refine ae ha1 ?_;refine ae hb1 ?_;refine ae hl1 ?_;rw[bB,aa];exact idt (.inr hk3)
 exact loop _ 0 rfl (by omega) (by simp)
theorem gg.use {v:ah}{l:List aL}(hl:ff 36 G v (l.map aL.av)) (hlen:l.length≤9223372036854775807) (hQ:Q (.int .i64 (oQ l:Nat)) G):al P gg.n [v] G Q:=by
 refine gg.sound ?_;unfold gg.S;intro R hR;have loop:∀ (n j:Nat),l.length-j=n->j≤l.length->R [v,.int .i64 (oQ (l.take j):Nat),.int .i64 (j:Int)] G:=by
  intro n;induction n with
  | zero=>
   intro j hn hj;have:j=l.length:=(by omega);subst this;refine hR _ _ _ _ ?_;refine ae (dh hl) ?_;rw[aM,aa,aI];refine⟨fun h=>absurd h (by omega),fun _=>?_⟩;rw[List.take_length];exact hQ
  | succ n ih=>
   intro j hn hj;obtain⟨u,hu⟩:∃ u,l[j]?=some u:=⟨_,List.getElem?_eq_getElem (by omega)⟩;obtain⟨a0,b0,ha0,hb0,hl0⟩:=jZ (f:=0) (o:=0) (tf:=ay) (fi:=nc) hl hu rfl iD (by decide) rfl rfl rfl;have ht:=A9 hu;have hle:=EN (l.take j);have hlj:(l.take j).length≤j:=List.length_take_le _ _;refine hR _ _ _ _ ?_;refine ae (dh hl) ?_;rw[aM,aa,aI];refine⟨fun _=>?_,fun h=>absurd (by omega) h⟩;refine ae ha0 ?_;refine ae hb0 ?_;refine ae hl0 ?_;rw[bB,aa,aI];refine⟨fun hk=>?_,fun hk=>?_⟩
   ·rw[if_pos hk]at ht;rw[bg,aa,i64_in (by omega) (by omega),bg,aa,i64_in (by omega) (by omega),show ((oQ (l.take j):Nat):Int)+1=((oQ (l.take (j+1)):Nat):Int) by omega];exact ih (j+1) (by omega) (by omega)
   ·rw[if_neg hk]at ht;rw[bg,aa,i64_in (by omega) (by omega),show oQ (l.take j)=oQ (l.take (j+1)) by omega];exact ih (j+1) (by omega) (by omega)
 exact loop _ 0 rfl (by omega)
def kJ (mine others:List aL) (u:aL):Int:=
 if 2048≤mine.length then 6 else if dp u=false then 120
 else if u.kind=1 then (if u.id=(oQ mine:Nat) then 0 else 120)
 else if (ey false u.id others).isSome=false then 120
 else if (ey true u.id mine).isSome then 120
 else if u.kind=2/\sha u.hash≠((ey false u.id others).getD aL.zero).hash then 120 else 0
theorem je (s:List UInt8):(sha s).length=32:=gU s
theorem CW {F0:List AId}{G0:ak}{ps:List LP}{s:List UInt8}{K:ah->ak->Prop}(hs:Sp F0 G0 ps G) (hK:∀ v G2,Sp F0 G0 (bm 1 v ([s].map .str)::ps) G2->K v G2):bu T iE 1 [(0,.str s)] G K:=
 Df (T:=T) (ts:=iE) (e:=bH) (si:=kf) (ie:=iO) m9 rfl fS rfl hs rfl (by decide) hK
end
end Go.Esc.M
namespace Go.Esc.M
open Go Go.Esc
section
variable {F0:List AId}{G0 G:ak}{ps:List LP}{Q:ah->ak->Prop}
theorem fa.use {v w:ah}{mine others:List aL}{u:aL}(hl:ff 36 G v (mine.map aL.av)) (ho:ff 36 G w (others.map aL.av)) (hok:∀ u∈mine,u.ok) (hok2:∀ u∈others,u.ok) (hlen:mine.length≤9223372036854775807) (hlen2:others.length≤9223372036854775807) (hu:u.ok)
  (hQ:∀ G',Ch [] G [] G'->Q (.int .i64 (kJ mine others u)) G'):al P fa.n [v,w,u.av] G Q:=by
 refine fa.sound ?_;unfold fa.S;rw[Dq];intro i1 f1;have s1:=(Sp.nil G).row f1 u.av;refine ae (dh (hl.ch' s1.ch)) ?_;unfold kJ at hQ;rw[fI,aa,aI];refine⟨fun h=>?_,fun h=>?_⟩
 ·rw[if_pos (by omega)]at hQ;exact hQ _ s1.ch
 rw[if_neg (by omega)]at hQ;refine ae (bF (i:=0) s1 rfl hu).2.2.2.2.2 ?_;refine dz.use hu fun G7 c7=>?_;have s7:=s1.tmp c7;rw[dx,aa];cases hv:dp u with
 | false=>
  rw[if_pos hv]at hQ;exact hQ _ s7.ch
 | true=>
  rw[if_neg (by rw[hv];decide)]at hQ;rw[Bool.not_true,aK];refine ae (bF (i:=0) s7 rfl hu).1 ?_;rw[bB,aa,aI];refine⟨fun hk1=>?_,fun hk1=>?_⟩
  ·rw[if_pos hk1]at hQ;refine ae (bF (i:=0) s7 rfl hu).2.1 ?_;refine gg.use (hl.ch' s7.ch) hlen ?_;refine⟨⟨(bF (i:=0) s7 rfl hu).2.1,trivial⟩,?_⟩;rw[cD,aa,dC];exact⟨fun h=>by rw[if_neg h]at hQ;exact hQ _ s7.ch,fun h=>by rw[if_pos h]at hQ;exact hQ _ s7.ch⟩
  rw[if_neg hk1]at hQ;refine ae (bF (i:=0) s7 rfl hu).2.1 ?_;refine gf.use (ho.ch' s7.ch) hok2 hlen2 fun G17 c17=>?_;have s17:=s7.tmp c17;have hf1:=lT (rm:=false) (id:=u.id) hok2;have hf2:=lT (rm:=true) (id:=u.id) hok;rw[z6,aa,zZ,aa];obtain⟨A,hA⟩:∃ A,A=ey false u.id others:=⟨_,rfl⟩;obtain⟨B,hB⟩:∃ A,A=ey true u.id mine:=⟨_,rfl⟩;rw[<- hA]at hf1 hQ ⊢;rw[<- hB]at hf2 hQ;intro i20 f20;have s20:=s17.row f20 aL.zero.av;refine jY (i:=0) s20 rfl aL.bq hf1 fun G22 s22=>?_;refine ae (bF (i:=1) s22 rfl hu).2.1 ?_;refine dZ.use (hl.ch' s22.ch) hok hlen fun G25 c25=>?_;have s25:=s22.tmp c25;rw[<- hB,z6,aa,zZ,aa];intro i28 f28;have s28:=s25.row f28 aL.zero.av;refine jY (i:=0) s28 rfl aL.bq hf2 fun G30 s30=>?_;have s30:Sp [] G [au i28 (B.getD aL.zero).av,au i20 (A.getD aL.zero).av,au i1 u.av] G30:=s30;intro J46;have bad:kJ mine others u=120->J46 (.bool true) G30:=by
   intro h;simp -zeta only [J46,aN];have:=hQ _ s30.ch;unfold kJ at h;rw[if_neg (by omega),if_neg (by rw[hv];decide),if_neg hk1,<- hA,<- hB]at h
   rwa [h]at this
  have hnx:kJ mine others u=if A.isSome=false then 120 else if B.isSome then 120 else if u.kind=2/\sha u.hash≠(A.getD aL.zero).hash then 120 else 0:=by
   unfold kJ;rw[if_neg (by omega),if_neg (by rw[hv];decide),if_neg hk1,<- hA,<- hB]
  rw[dx,aa];cases hAs:A.isSome with
  | false=>
   rw[if_pos hAs]at hnx;rw[Bool.not_false,aN];exact bad hnx
  | true=>
   rw[if_neg (by rw[hAs];decide)]at hQ hnx;rw[Bool.not_true,aK];cases hBs:B.isSome with
   | true=>
    rw[if_pos hBs]at hnx;exact bad hnx
   | false=>
    rw[if_neg (by rw[hBs];decide)]at hQ;simp -zeta only [J46,aK];refine ae (bF (i:=2) s30 rfl hu).1 ?_;rw[bB,aa,aI];refine⟨fun hk2=>?_,fun hk2=>?_⟩
    ·obtain⟨x,hx,hxs⟩:=BH hu (au.own (i:=2) s30 rfl);refine ae hx ?_;refine ae (km (si:=fJ) (ie:=gi) (di:=iO) eC rfl cW rfl fS rfl hxs) ?_;refine ae (bF (i:=1) s30 rfl hf1).2.2.2.1 ?_;refine CW s30 fun v37 G38 s38=>?_;have hh:=hu.hash;refine fO.use (xs:=[u.hash]) (bm.own (i:=0) s38 rfl).is (by simp) (by simp;omega) fun G40 c40=>?_;have s40:=s38.tmp c40;refine⟨⟨(bF (i:=2) s40 rfl hf1).2.2.2.1,trivial⟩,?_⟩;have e1:[u.hash].flatten=u.hash:=(by simp);rw[e1,qg (je _) hf1.hash,aa,dC];refine⟨fun h=>?_,fun h=>?_⟩
     ·rw[if_pos ⟨hk2,h⟩]at hQ;exact hQ _ s40.ch
     ·rw[if_neg (fun hh=>hh.2 h)]at hQ;exact hQ _ s40.ch
    ·rw[if_neg (fun hh=>hk2 hh.1)]at hQ;exact hQ _ s30.ch
theorem nW {l:List aL}(h:∀ p∈l,p.ok):Esc.uni 36 (l.map aL.av)=true/\mz (l.map aL.av)=true:=by
 refine⟨by simp only[Esc.uni,List.all_map,List.all_eq_true];intro p hp;simp[aL.sz (h p hp)],?_⟩;induction l with
 | nil=>rfl
 | cons p l ih=>simp[mz,aL.okv,ih (fun p hp=>h p (by simp[hp]))]
end
end Go.Esc.M
namespace Go.Esc.M
open Go Go.Esc
end Go.Esc.M
namespace Go.Esc.M
open Go Go.Esc
def Lo (u:aL) (t:Bool) (b:aL):Bool:=if b.kind=1/\b.id=u.id then decide (u.kind=3) || decide (sha u.hash=b.hash) else t
def Ln (u:aL) (B:List aL):Bool:=B.foldl (Lo u) false
def J2 (A B:List aL):Prop:=∀ i u,A[i]?=some u->if u.kind=1 then u.id=((oQ (A.take i):Nat):Int) else Ln u B=true/\∀ k v,k<i->A[k]?=some v->v.kind≠1->v.id≠u.id
theorem Ep {u:aL}(h:dp u=true):u.kind=1\/u.kind=2\/u.kind=3:=by
 obtain⟨_,_,hk⟩:=lW h;omega
theorem AB {A:List aL}{id:Int}(hv:∀ a∈A,dp a=true) (h:(ey true id A).isSome=false):∀ a∈A,a.kind≠1->a.id≠id:=by
 intro a ha hk e;unfold ey at h;rw[Option.isSome_eq_false_iff,Option.isNone_iff_eq_none,List.find?_eq_none]at h;refine h a ha ?_;unfold uE;rw[dT_ e];rcases Ep (hv a ha) with h1|h1|h1
 ·exact absurd h1 hk
 ·simp[h1]
 ·simp[h1]
theorem sv {B:List aL}{id:Int}(h:(ey false id B).isSome=true):∃ b,ey false id B=some b/\b∈B/\b.kind=1/\b.id=id:=by
 obtain⟨b,hb⟩:=Option.isSome_iff_exists.1 h;refine⟨b,hb,List.mem_of_find?_eq_some hb,?_⟩;have:=List.find?_some hb;unfold uE at this;simp only[cond_false,Bool.and_eq_true,decide_eq_true_eq]at this;exact⟨this.2,this.1⟩
theorem nG {A O:List aL}{u:aL}(h:kJ A O u=0):dp u=true/\(u.kind=1->u.id=(oQ A:Nat))/\(u.kind≠1->(ey false u.id O).isSome=true/\(ey true u.id A).isSome=false/\¬ (u.kind=2/\sha u.hash≠((ey false u.id O).getD aL.zero).hash)):=by
 unfold kJ at h;split at h
 ·cases h
 split at h
 ·cases h
 rename_i hv;have hv:dp u=true:=by simpa using hv
 split at h
 ·rename_i hk;split at h
  ·rename_i hid;exact⟨hv,fun _=>hid,fun hn=>absurd hk hn⟩
  ·cases h
 rename_i hk;split at h
 ·cases h
 rename_i h1;split at h
 ·cases h
 rename_i h2;split at h
 ·cases h
 rename_i h3;exact⟨hv,fun hn=>absurd hn hk,fun _=>⟨(Bool.not_eq_false _).mp h1,(Bool.not_eq_true _).mp h2,h3⟩⟩
theorem J2.nil (B:List aL):J2 [] B:=fun i u h=>by simp at h
def Lb (A:List aL) (id:Int):Bool:=A.any fun a=>!decide (a.kind=1) && decide (a.id=id)
theorem FI {A:List aL}{id:Int}(hv:∀ a∈A,dp a=true):Lb A id=(ey true id A).isSome:=by
 cases h:(ey true id A).isSome with
 | false=>
  refine List.any_eq_false.2 fun a ha=>?_;have:=AB hv h a ha;by_cases hk:a.kind=1
  ·simp[hk]
  ·simp[hk,this hk]
 | true=>
  obtain⟨b,hb⟩:=Option.isSome_iff_exists.1 h;refine List.any_eq_true.2 ⟨b,List.mem_of_find?_eq_some hb,?_⟩;have:=List.find?_some hb;unfold uE at this;simp only[cond_true,Bool.and_eq_true,Bool.or_eq_true,decide_eq_true_eq]at this;have hk:b.kind≠1:=by omega
  simp[hk,this.1]
end Go.Esc.M
