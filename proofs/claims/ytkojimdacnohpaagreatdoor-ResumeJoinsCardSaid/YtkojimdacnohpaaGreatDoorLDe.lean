import Derived.Test.YtkojimdacnohpaaGreatDoorLCo
import Derived.Test.YtkojimdacnohpaaGreatDoorLHc
set_option maxHeartbeats 2000000
set_option linter.unusedSimpArgs false
set_option linter.unusedVariables false
set_option maxRecDepth 20000
namespace Go.Esc.M
open Go Go.Esc
def ba.bytes (p:ba):List UInt8:=be 1 (bif p.ours then 1 else 0)++(be 8 (kn p.id)++(be 8 (kn p.amount)++p.hash))
theorem ba.sf {p:ba}(h:p.ok):p.bytes.length=49:=by simp[ba.bytes,iH,h.hash]
def vK (owner index:Int) (point:List UInt8) (o q:Int) (l:List ba):List UInt8:=
 be 1 owner.toNat++(be 8 (kn index)++(point++(be 8 (kn o)++(be 8 (kn q)++(be 2 l.length++l.flatMap ba.bytes)))))
def vZ:Int:=281474976710655
def qZ (owner index:Int):Prop:=owner<0\/1<owner\/index<0\/vZ<index
instance (owner index:Int):Decidable (qZ owner index):=inferInstanceAs (Decidable (_\/_\/_\/_))
def oI (owner index:Int) (point:List UInt8) (o q:Int) (l:List ba):List UInt8×Int:=
 if qZ owner index then ([],1) else bif lG o q l then (vK owner index point o q l,0) else ([],4)
theorem tn:∀ (l:List ba) {lt lf:Int}{ct cf a b:Nat},mR lt lf ct cf l=some (a,b)->a+b=ct+cf+l.length
 | [],lt,lf,ct,cf,a,b,h=>by
  simp only[mR,Option.some.injEq,Prod.mk.injEq]at h;simp;omega
 | p::l,lt,lf,ct,cf,a,b,h=>by
  rw[mR]at h;split at h
  ·cases h
  ·cases hp:p.ours with
   | true=>
    rw[hp]at h;have:=tn l h;simp;omega
   | false=>
    rw[hp]at h;have:=tn l h;simp;omega
theorem qQ {o q:Int}{l:List ba}(h:lG o q l=true):l.length≤966:=by
 unfold lG at h;simp only[Bool.and_eq_true]at h;have h:=h.2;unfold few at h;split at h
 ·cases h
 ·rename_i a b he;have:=tn l he;simp only[Bool.and_eq_true,decide_eq_true_eq]at h;omega
section
variable {F0:List AId}{G0 G:ak}{ps:List LP}{Q:ah->ak->Prop}
theorem wr {id:AId}{bs xs:List UInt8}{n:FuncId}{args:List ah}{i:Nat}{K:ah->ak->Prop}(hs:Sp F0 G0 ps G) (hi:ps[i]?=some (WrL id bs 0))
  (huse:∀ {G:ak}{F:List AId}{Q:ah->ak->Prop},Wr id (bs,0) G F->(∀ F' G',Wr id (laid (bs,0) xs) G' F'->Ch F G F' G'->Q (.tuple []) G')->al P n args G Q)
  (hK:∀ G',Sp F0 G0 (ps.set i (WrL id (bs++xs) 0)) G'->K (.tuple []) G'):al P n args G K:=by
 refine hs.call hi (WrL id (bs++xs) 0) fun F h k=>?_;exact huse h fun F' G' w c=>hK _ (k F' G' w c)
theorem Gt (n:Int) (h0:0≤n) (h1:n≤255):gv T G ay cm (.int .i64 n)=some (.int .u8 (n.toNat:Nat)):=by
 rw[jk iD cW rfl,u8_in h0 h1];congr 2;omega
theorem iN.use {owner index o q:Int}{point:List UInt8}{v:ah}{l:List ba}(hp:point.length=32) (hl:ff 35 G v (l.map ba.av)) (hok:∀ p∈l,p.ok) (hlen:l.length≤9223372036854775807)
  (hQ:∀ G',Ch [] G [] G'->Q (.tuple [.str (oI owner index point o q l).1,.int .i64 (oI owner index point o q l).2]) G') :
  al P iN.n [.int .i64 owner,.int .i64 index,.agg (point.map u8v),gH o q v] G Q:=by
 obtain⟨hv1,hv2,_⟩:=tU hl;refine iN.sound ?_;unfold iN.S;obtain⟨mI,hmI⟩:∃ m,m=(281474976710655:Int):=⟨_,rfl⟩;rw[<- hmI];have hmax:vZ=mI:=by rw[hmI];rfl
 intro i1 f1;have s1:=(Sp.nil G).row f1 (.agg (point.map u8v));intro i3 f3;have s3:=s1.row f3 (gH o q v);revert s3;generalize ak.upd _ i3 (.own (gH o q v))=G4;intro s3 J71;have hbad:qZ owner index->J71 (.bool true) G4:=by
  intro h;simp -zeta only [J71,aN];have:=hQ _ s3.ch;rw[oI,if_pos h]at this;exact this
 have hgood:¬ qZ owner index->J71 (.bool false) G4:=by
  intro h;rw[oI,if_neg h]at hQ;have ho:owner=0\/owner=1:=by
   unfold qZ at h;omega
  simp -zeta only [J71,aK];refine ae (lI hv1 hv2 (au.own (i:=0) s3 rfl)).2.2.2 ?_;refine iW.use (hl.ch' s3.ch) hok hlen fun G13 c13=>?_;have s13:=s3.tmp c13;rw[dx,aa];cases hsd:lG o q l with
  | false=>
   rw[Bool.not_false,aN];have:=hQ _ s13.ch;rw[hsd]at this;exact this
  | true=>
   rw[Bool.not_true,aK];have hl966:=qQ hsd;simp only[hsd,cond_true]at hQ;refine jV.use fun iw G16 w16 c16=>?_;have s16:=s13.new (p:=WrL iw [] 0) w16 c16;refine ae (Gt owner (by omega) (by omega)) ?_;refine wr (i:=0) s16 rfl (fun h k=>eo.use (by omega) h (by simp) k) fun G19 s19=>?_;refine wr (i:=0) s19 rfl (fun h k=>cB.use h (by simp[iH]) k) fun G21 s21=>?_;refine ae (bM hp (au.own (i:=2) s21 rfl)) ?_;refine wr (i:=0) s21 rfl (fun h k=>dG.use hp h (by simp[iH]) k) fun G24 s24=>?_;refine ae (lI hv1 hv2 (au.own (i:=1) s24 rfl)).1 ?_;refine wr (i:=0) s24 rfl (fun h k=>cB.use h (by simp[iH,hp]) k) fun G27 s27=>?_;refine ae (lI hv1 hv2 (au.own (i:=1) s27 rfl)).2.1 ?_;refine wr (i:=0) s27 rfl (fun h k=>cB.use h (by simp[iH,hp]) k) fun G30 s30=>?_;refine ae (lI hv1 hv2 (au.own (i:=1) s30 rfl)).2.2.1 ?_;have hlen':∀ G',Ch [] G [] G'->fU T G' aw v=some (.int .i64 (l.length:Nat)):=fun G' c=>by
    rw[(hl.ch' c).len (i:=b8) cy rfl,List.length_map]
   refine ae (hlen' _ s30.ch) ?_;rw[jk iD ER rfl,aa,u16_in (by omega) (by omega)];refine wr (i:=0) s30 rfl (fun h k=>fV.use (by omega) h (by simp[iH,hp]) k) fun G35 s35=>?_;refine ae (lI hv1 hv2 (au.own (i:=1) s35 rfl)).2.2.1 ?_;refine ae (hlen' _ s35.ch) ?_;intro R38 hR38;obtain⟨H,hH,hHl⟩:∃ H:List UInt8,[]++be 1 owner.toNat++be 8 (kn index)++point++be 8 (kn o)++be 8 (kn q)++be 2 l.length=H/\H.length=59:=⟨_,rfl,by simp[iH,hp]⟩;have htb:vK owner index point o q l=H++l.flatMap ba.bytes:=(by rw[<- hH];simp[vK]);rw[hH]at s35;have hfm:∀ j,((l.take j).flatMap ba.bytes).length≤49*l.length:=by
    intro j;have:∀ m:List ba,(∀ p∈m,p.ok)->(m.flatMap ba.bytes).length=49*m.length:=by
     intro m hm;induction m with
     | nil=>rfl
     | cons p m ih=>
      rw[List.flatMap_cons,List.length_append,ba.sf (hm p (by simp)),ih (fun p hp=>hm p (by simp[hp])),List.length_cons];omega
    rw[this _ (fun p hp=>hok p (List.mem_of_mem_take hp)),List.length_take];omega
   have loop:∀ (n j:Nat) (G':ak),l.length-j=n->j≤l.length->Sp [] G [WrL iw (H++(l.take j).flatMap ba.bytes) 0,au i3 (gH o q v),au i1 (.agg (point.map u8v))] G' ->
     R38 [.ptr iw [] 0,v,.int .i64 (l.length:Nat),.int .i64 (j:Int)] G':=by
    intro n;induction n with
    | zero=>
     intro j G' hn hj hs;have:j=l.length:=(by omega);subst this;rw[List.take_of_length_le (Nat.le_refl _),<- htb]at hs;refine hR38 _ _ _ _ _ ?_;rw[aM,aa,aI];refine⟨fun h=>absurd h (by omega),fun _=>?_⟩;obtain⟨F,hw⟩:=hs.get (i:=0) rfl;refine fG.use (st:=(vK owner index point o q l,0)) hw ?_;rw[K1,aa,K0,aa,if_pos rfl];exact hQ _ hs.ch
    | succ n ih=>
     intro j G' hn hj hs;obtain⟨p,hp'⟩:∃ p,l[j]?=some p:=⟨_,List.getElem?_eq_getElem (by omega)⟩;have hpo:=hok p (List.mem_of_getElem? hp');obtain⟨a,ha,hla⟩:=vj (hl.ch' hs.ch) hp';have hfj:=hfm j;refine hR38 _ _ _ _ _ ?_;rw[aM,aa,aI];refine⟨fun _=>?_,fun h=>absurd (by omega) h⟩;rw[ha,aa,hla,aa];refine jL hs eP (ba.fits hpo) (by rw[ba.sz hpo];rfl) (ba.okv p) fun i47 G49 s49=>?_;refine ae (ba.fld hpo (au.own (i:=0) s49 rfl)).1 ?_;intro J65;have h65:∀ (G55:ak) (x:Nat),x=(bif p.ours then 1 else 0)->Sp [] G [au i47 p.av,WrL iw (H++(l.take j).flatMap ba.bytes++be 1 x) 0,au i3 (gH o q v),au i1 (.agg (point.map u8v))] G55->J65 G55:=by
      intro G55 x hx s55;simp -zeta only [J65];refine ae (ba.fld hpo (au.own (i:=0) s55 rfl)).2.1 ?_;refine wr (i:=1) s55 rfl (fun h k=>cB.use h (by simp only[List.length_append,iH];omega) k) fun G58 s58=>?_;refine ae (ba.fld hpo (au.own (i:=0) s58 rfl)).2.2.1 ?_;refine wr (i:=1) s58 rfl (fun h k=>cB.use h (by simp only[List.length_append,iH];omega) k) fun G61 s61=>?_;refine ae (ba.fld hpo (au.own (i:=0) s61 rfl)).2.2.2 ?_;refine wr (i:=1) s61 rfl (fun h k=>dG.use hpo.hash h (by simp only[List.length_append,iH];omega) k) fun G64 s64=>?_;rw[bg,aa,i64_in (by omega) (by omega)];refine ih (j+1) G64 (by omega) (by omega) ?_;have e:H++(l.take (j+1)).flatMap ba.bytes=H++(l.take j).flatMap ba.bytes++be 1 x++be 8 (kn p.id)++be 8 (kn p.amount)++p.hash:=by
       rw[List.take_add_one,hp',hx];simp[ba.bytes]
      rw[e];exact s64.erase 0
     rw[gO];refine⟨fun h=>?_,fun h=>?_⟩
     ·exact wr (i:=1) (xs:=be 1 1) s49 rfl (fun h k=>eo.use (v:=1) (by omega) h (by simp only[List.length_append,iH];omega) k) fun G52 s52=>h65 G52 1 (by rw[h];rfl) s52
     ·exact wr (i:=1) (xs:=be 1 0) s49 rfl (fun h k=>eo.use (v:=0) (by omega) h (by simp only[List.length_append,iH];omega) k) fun G52 s52=>h65 G52 0 (by rw[h];rfl) s52
   exact loop _ 0 G35 rfl (by omega) (by simpa using s35)
 rw[aM,aa,aI];refine⟨fun h=>hbad (.inl h),fun h0=>?_⟩;rw[da,aa,aI];refine⟨fun h=>hbad (.inr (.inl h)),fun h1=>?_⟩;rw[aM,aa,aI];refine⟨fun h=>hbad (.inr (.inr (.inl h))),fun h2=>?_⟩;rw[da,aa];by_cases h3:mI<index
 ·rw[dT_ h3];exact hbad (.inr (.inr (.inr (by rw[hmax];exact h3))))
 ·rw[dF_ h3];refine hgood fun h=>?_;rcases h with h|h|h|h
  ·exact h0 h
  ·exact h1 h
  ·exact h2 h
  ·exact h3 (by rw[<- hmax];exact h)
end
end Go.Esc.M
namespace Go.Esc
open Go Go.RowKit
end Go.Esc
namespace Go.Esc.M
open Go Go.Esc
theorem yn:∀ {m:List ba},(∀ p∈m,p.ok)->(m.flatMap ba.bytes).length=49*m.length
 | [],_=>rfl
 | p::m,h=>by
  rw[List.flatMap_cons,List.length_append,ba.sf (h p (by simp)),yn (fun q hq=>h q (by simp[hq])),List.length_cons];omega
structure Okp (pre:List ba) (p:ba):Prop where
 id:0≤p.id
 amount:1≤p.amount
 most:p.amount≤jb
 pair:∀ q∈pre,¬ (p.ours=true/\q.ours=false)/\¬ (p.ours=q.ours/\p.id≤q.id)
def Okl:List ba->List ba->Prop
 | _,[]=>True
 | pre,p::l=>Okp pre p/\Okl (pre++[p]) l
def cnt (b:Bool) (l:List ba):Nat:=(l.filter (fun p=>p.ours == b)).length
theorem wz (b:Bool) (p:ba) (l:List ba):cnt b (p::l)=(if p.ours=b then 1 else 0)+cnt b l:=by
 unfold cnt;cases h:p.ours<;>cases b<;>simp[h]<;>omega
structure Inv (pre:List ba) (lt lf:Int) (cf:Nat):Prop where
 lt1:-1≤lt
 lf1:-1≤lf
 lt0:lt=-1\/∃ q∈pre,q.ours=true/\q.id=lt
 lf0:lf=-1\/∃ q∈pre,q.ours=false/\q.id=lf
 ltm:∀ q∈pre,q.ours=true->q.id≤lt
 lfm:∀ q∈pre,q.ours=false->q.id≤lf
 cf0:0<cf ↔ ∃ q∈pre,q.ours=false
theorem zN:∀ (l pre:List ba) (lt lf:Int) (ct cf:Nat),Inv pre lt lf cf ->
  (Okl pre l->mR lt lf ct cf l=some (ct+cnt true l,cf+cnt false l))/\(¬ Okl pre l->mR lt lf ct cf l=none)
 | [],pre,lt,lf,ct,cf,h=>⟨fun _=>by simp[mR,cnt],fun h=>absurd trivial h⟩
 | p::l,pre,lt,lf,ct,cf,h=>by
  have key:(p.amount<1\/jb<p.amount\/p.id≤(bif p.ours then lt else lf)\/(p.ours=true/\0<cf)) ↔ ¬ Okp pre p:=by
   constructor
   ·rintro (h1|h1|h1|⟨h1,h2⟩) hk
    ·have:=hk.amount;omega
    ·have:=hk.most;omega
    ·cases ho:p.ours with
     | true=>
      rw[ho,cond_true]at h1;rcases h.lt0 with h2|⟨q,hq,h3,h4⟩
      ·have:=hk.id;omega
      ·exact (hk.pair q hq).2 ⟨by rw[ho,h3],by omega⟩
     | false=>
      rw[ho,cond_false]at h1;rcases h.lf0 with h2|⟨q,hq,h3,h4⟩
      ·have:=hk.id;omega
      ·exact (hk.pair q hq).2 ⟨by rw[ho,h3],by omega⟩
    ·obtain⟨q,hq,h3⟩:=h.cf0.1 h2;exact (hk.pair q hq).1 ⟨h1,h3⟩
   ·intro hk;refine Decidable.byContradiction fun hn=>hk ?_;simp only[not_or]at hn;obtain⟨h1,h2,h3,h4⟩:=hn;have hl:=h.lt1;have hf:=h.lf1;refine⟨?_,by omega,by omega,fun q hq=>⟨fun hh=>h4 ⟨hh.1,h.cf0.2 ⟨q,hq,hh.2⟩⟩,fun hh=>?_⟩⟩
    ·cases ho:p.ours<;>simp only[ho,cond_true,cond_false]at h3<;>omega
    ·obtain⟨e,hle⟩:=hh;cases ho:p.ours with
     | true=>
      rw[ho,cond_true]at h3;have:=h.ltm q hq (by rw[<- e,ho]);omega
     | false=>
      rw[ho,cond_false]at h3;have:=h.lfm q hq (by rw[<- e,ho]);omega
  rw[mR];by_cases hk:Okp pre p
  ·have hn:¬ (p.amount<1\/jb<p.amount\/p.id≤(bif p.ours then lt else lf)\/(p.ours=true/\0<cf)):=fun h=>key.1 h hk;rw[if_neg hn];have hid:=hk.id;cases ho:p.ours with
   | true=>
    have hi':Inv (pre++[p]) p.id lf cf:=by
     refine⟨by omega,h.lf1,.inr ⟨p,by simp,ho,rfl⟩,?_,?_,?_,?_⟩
     ·rcases h.lf0 with h|⟨q,hq,hh⟩
      ·exact .inl h
      ·exact .inr ⟨q,by simp[hq],hh⟩
     ·intro q hq hqo;rcases List.mem_append.1 hq with hq|hq
      ·have:=(hk.pair q hq).2;refine Decidable.byContradiction fun hc=>this ⟨by rw[ho,hqo],by omega⟩
      ·rw[List.mem_singleton.1 hq];omega
     ·intro q hq hqo;rcases List.mem_append.1 hq with hq|hq
      ·exact h.lfm q hq hqo
      ·rw[List.mem_singleton.1 hq,ho]at hqo;cases hqo
     ·rw[h.cf0];constructor
      ·rintro⟨q,hq,hh⟩;exact⟨q,by simp[hq],hh⟩
      ·rintro⟨q,hq,hh⟩;rcases List.mem_append.1 hq with hq|hq
       ·exact⟨q,hq,hh⟩
       ·rw[List.mem_singleton.1 hq,ho]at hh;cases hh
    have ih:=zN l (pre++[p]) p.id lf (ct+1) cf hi';rw[cond_true,wz,wz,ho];refine⟨fun hh=>?_,fun hh=>ih.2 fun h2=>hh ⟨hk,h2⟩⟩;rw[ih.1 hh.2,if_pos rfl,if_neg (by simp)];congr 2<;>omega
   | false=>
    have hi':Inv (pre++[p]) lt p.id (cf+1):=by
     refine⟨h.lt1,by omega,?_,.inr ⟨p,by simp,ho,rfl⟩,?_,?_,?_⟩
     ·rcases h.lt0 with h|⟨q,hq,hh⟩
      ·exact .inl h
      ·exact .inr ⟨q,by simp[hq],hh⟩
     ·intro q hq hqo;rcases List.mem_append.1 hq with hq|hq
      ·exact h.ltm q hq hqo
      ·rw[List.mem_singleton.1 hq,ho]at hqo;cases hqo
     ·intro q hq hqo;rcases List.mem_append.1 hq with hq|hq
      ·have:=(hk.pair q hq).2;refine Decidable.byContradiction fun hc=>this ⟨by rw[ho,hqo],by omega⟩
      ·rw[List.mem_singleton.1 hq];omega
     ·exact⟨fun _=>⟨p,by simp,ho⟩,fun _=>by omega⟩
    have ih:=zN l (pre++[p]) lt p.id ct (cf+1) hi';rw[cond_false,wz,wz,ho];refine⟨fun hh=>?_,fun hh=>ih.2 fun h2=>hh ⟨hk,h2⟩⟩;rw[ih.1 hh.2,if_neg (by simp),if_pos rfl];congr 2<;>omega
  ·rw[if_pos (key.2 hk)];exact⟨fun hh=>absurd hh.1 hk,fun _=>rfl⟩
theorem MJ:Inv [] (-1) (-1) 0:=⟨by omega,by omega,.inl rfl,.inl rfl,by simp,by simp,by simp⟩
theorem Okl.split:∀ {l pre:List ba}(j:Nat),Okl pre l ↔ Okl pre (l.take j)/\Okl (pre++l.take j) (l.drop j)
 | [],pre,j=>by simp[Okl]
 | p::l,pre,0=>by simp[Okl]
 | p::l,pre,j+1=>by
  simp only[Okl,List.take_succ_cons,List.drop_succ_cons];rw[Okl.split (l:=l) (pre:=pre++[p]) j,and_assoc,List.append_assoc];rfl
theorem Okl.mem:∀ {l pre:List ba},Okl pre l->∀ p∈l,0≤p.id/\1≤p.amount/\p.amount≤jb
 | q::l,pre,h,p,hp=>by
  rcases List.mem_cons.1 hp with rfl|hp
  ·exact⟨h.1.id,h.1.amount,h.1.most⟩
  ·exact Okl.mem h.2 p hp
structure vC (o q:Int) (l:List ba):Prop where
 o0:0≤o
 o1:o≤jb
 q0:0≤q
 q1:q≤jb
 t:cnt true l≤483
 f:cnt false l≤483
 l:Okl [] l
theorem vc (o q:Int) (l:List ba):lG o q l=true ↔ vC o q l:=by
 unfold lG;simp only[Bool.and_eq_true,decide_eq_true_eq];have h:=zN l [] (-1) (-1) 0 0 MJ;constructor
 ·rintro⟨⟨⟨⟨h1,h2⟩,h3⟩,h4⟩,h5⟩;have hk:Okl [] l:=Classical.byContradiction fun hn=>by rw[h.2 hn]at h5;cases h5
  rw[h.1 hk]at h5;simp only[few,Bool.and_eq_true,decide_eq_true_eq]at h5;exact⟨h1,h2,h3,h4,by omega,by omega,hk⟩
 ·intro hs;refine⟨⟨⟨⟨hs.o0,hs.o1⟩,hs.q0⟩,hs.q1⟩,?_⟩;rw[h.1 hs.l];have:=hs.t;have:=hs.f;simp only[few,Bool.and_eq_true,decide_eq_true_eq];omega
end Go.Esc.M
namespace Go.Esc.M
open Go Go.Esc
theorem LO (b:Bool) (l:List ba):cnt b l≤l.length:=List.length_filter_le _ _
theorem JK {b:Bool}{l:List ba}{j:Nat}{p:ba}(h:l[j]?=some p):cnt b (l.take (j+1))=cnt b (l.take j)+(if p.ours=b then 1 else 0):=by
 rw[List.take_add_one,h];unfold cnt;rw[List.filter_append,List.length_append];cases ho:p.ours<;>cases b<;>simp[ho]
section
variable {F0:List AId}{G0 G:ak}{ps:List LP}{Q:ah->ak->Prop}
theorem I7 {v:ah}{l:List ba}{j f o:Nat}{p:ba}{tf:TypeId}{fi:TI}{c:ah}(h:ff 35 G v (l.map ba.av)) (hj:l[j]?=some p) (hf:[(du,0),(aq,1),(aq,2),(ar,3)][f]?=some (tf,o)) (hft:T tf=some fi) (hz:fi.size≠0)
  (hs:szs (([.bool p.ours,.int .i64 p.id,.int .i64 p.amount,.agg (p.hash.map u8v)]:List ah).take f)=o) (hc:([.bool p.ours,.int .i64 p.id,.int .i64 p.amount,.agg (p.hash.map u8v)]:List ah)[f]?=some c) (hfit:dD fi c=true) :
  ∃ a b,aO T aw v (.int .i64 (j:Int))=some a/\bt T aT a f=some b/\ag T G tf b=some c:=
 ff.fld (k:=.i64) (i:=b8) (ie:=dS) cy rfl eP rfl hf hft hz h (by rw[List.getElem?_map,hj];rfl) hs hc hfit
theorem eg.use {v:ah}{l:List ba}{b:Bool}(hl:ff 35 G v (l.map ba.av)) (hok:∀ p∈l,p.ok) (hlen:l.length≤9223372036854775807) (hQ:Q (.int .i64 (cnt b l:Nat)) G):al P eg.n [v,.bool b] G Q:=by
 refine eg.sound ?_;unfold eg.S;intro R hR;have loop:∀ (n j:Nat),l.length-j=n->j≤l.length->R [v,.bool b,.int .i64 (cnt b (l.take j):Nat),.int .i64 (j:Int)] G:=by
  intro n;induction n with
  | zero=>
   intro j hn hj;have:j=l.length:=(by omega);subst this;refine hR _ _ _ _ _ ?_;rw[hl.len (i:=b8) cy rfl,List.length_map,aa,aM,aa,aI];refine⟨fun h=>absurd h (by omega),fun _=>?_⟩;rw[List.take_length];exact hQ
  | succ n ih=>
   intro j hn hj;obtain⟨p,hp⟩:∃ p,l[j]?=some p:=⟨_,List.getElem?_eq_getElem (by omega)⟩;obtain⟨a,b',ha,hb',hla⟩:=I7 (f:=0) (o:=0) (tf:=du) (fi:=rT) hl hp rfl lL (by decide) rfl rfl rfl;have hcl:=LO b (l.take j);have hjl:(l.take j).length≤j:=List.length_take_le _ _;have ht:=JK (b:=b) hp;refine hR _ _ _ _ _ ?_;rw[hl.len (i:=b8) cy rfl,List.length_map,aa,aM,aa,aI];refine⟨fun _=>?_,fun h=>absurd (by omega) h⟩;rw[ha,aa,hb',aa,hla,aa,wU lL rfl,aa,gO];refine⟨fun h=>?_,fun h=>?_⟩
   ·rw[if_pos (by simpa using h)]at ht;rw[bg,aa,i64_in (by omega) (by omega),bg,aa,i64_in (by omega) (by omega),show ((cnt b (l.take j):Nat):Int)+1=((cnt b (l.take (j+1)):Nat):Int) by omega];exact ih (j+1) (by omega) (by omega)
   ·rw[if_neg (by simpa using h)]at ht;rw[bg,aa,i64_in (by omega) (by omega),show cnt b (l.take j)=cnt b (l.take (j+1)) by omega];exact ih (j+1) (by omega) (by omega)
 exact loop _ 0 rfl (by omega)
theorem fk.use {o q:Int}{v:ah}{l:List ba}(hl:ff 35 G v (l.map ba.av)) (hok:∀ p∈l,p.ok) (hlen:l.length≤9223372036854775807) (hQ:∀ G',Ch [] G [] G'->Q (.bool (lG o q l)) G') :
  al P fk.n [gH o q v] G Q:=by
 obtain⟨hv1,hv2,_⟩:=tU hl;refine fk.sound ?_;unfold fk.S;obtain⟨mA,hmA⟩:∃ m,m=(1152921504606846976:Int):=⟨_,rfl⟩;rw[<- hmA];have hmax:jb=mA:=by rw[hmA];rfl
 intro i1 f1;have s1:=(Sp.nil G).row f1 (gH o q v);revert s1;generalize G.upd i1 (.own (gH o q v))=G2;intro s1;obtain⟨f0,f1',f2,_⟩:=lI hv1 hv2 (au.own (i:=0) s1 rfl);intro J85;have hno:¬ vC o q l->∀ G',Ch [] G [] G'->Q (.bool false) G':=fun h G' c=>by
  have:=hQ G' c
  rwa [Bool.eq_false_iff.2 (fun hh=>h ((vc o q l).1 hh))]at this
 have hyes:vC o q l->∀ G',Ch [] G [] G'->Q (.bool true) G':=fun h G' c=>by
  have:=hQ G' c
  rwa [(vc o q l).2 h]at this
 have hbad:¬ vC o q l->J85 (.bool true) G2:=by
  intro h;simp -zeta only [J85,aN];exact hno h _ s1.ch
 have hgood:(Okl [] l->vC o q l)->J85 (.bool false) G2:=by
  intro hall;simp -zeta only [J85,aK];intro R21 hR21;have outer:∀ (n j:Nat) (G':ak),l.length-j=n->j≤l.length->Okl [] (l.take j)->Sp [] G [au i1 (gH o q v)] G'->R21 [.ptr i1 [] 0,.int .i64 (j:Int)] G':=by
   intro n;induction n with
   | zero=>
    intro j G' hn hj hk hs;have:j=l.length:=(by omega);subst this;rw[List.take_length]at hk;obtain⟨_,_,f2,_⟩:=lI hv1 hv2 (au.own (i:=0) hs rfl);refine hR21 _ _ _ ?_;show wv (ag T G' aw (.ptr i1 [2] 2)) _;rw[f2,aa,(hl.ch' hs.ch).len (i:=b8) cy rfl,List.length_map,aa,aM,aa,aI];exact⟨fun h=>absurd h (by omega),fun _=>hyes (hall hk) _ hs.ch⟩
   | succ n ih=>
    intro j G' hn hj hk hs;obtain⟨p,hp⟩:∃ p,l[j]?=some p:=⟨_,List.getElem?_eq_getElem (by omega)⟩;have hpo:=hok p (List.mem_of_getElem? hp);have hjl:j<l.length:=(by omega);obtain⟨_,_,f2,_⟩:=lI hv1 hv2 (au.own (i:=0) hs rfl);obtain⟨a,ha,hla⟩:=vj (hl.ch' hs.ch) hp;have hdr:l.drop j=p::l.drop (j+1):=by
     obtain⟨hx,rfl⟩:=List.getElem?_eq_some_iff.1 hp;exact List.drop_eq_getElem_cons hx
    have hsplit:=Okl.split (l:=l) (pre:=[]) j;rw[hdr,List.nil_append]at hsplit;have hbadp:¬ Okp (l.take j) p->¬ vC o q l:=fun h hh=>h (hsplit.1 hh.l).2.1;have hnext:Okp (l.take j) p->Okl [] (l.take (j+1)):=fun h=>by
     have h2:=(Okl.split (l:=l.take (j+1)) (pre:=[]) j);rw[h2];have e1:(l.take (j+1)).take j=l.take j:=(by rw[List.take_take,Nat.min_eq_left (by omega)]);have e2:(l.take (j+1)).drop j=[p]:=by
      rw[List.drop_take,hdr];simp
     rw[e1,e2];exact⟨hk,h,trivial⟩
    refine hR21 _ _ _ ?_;show wv (ag T G' aw (.ptr i1 [2] 2)) _;rw[f2,aa,(hl.ch' hs.ch).len (i:=b8) cy rfl,List.length_map,aa,aM,aa,aI];refine⟨fun _=>?_,fun h=>absurd (by omega) h⟩;show wv (ag T G' aw (.ptr i1 [2] 2)) _;rw[f2,aa,ha,aa,hla,aa];refine jL hs eP (ba.fits hpo) (by rw[ba.sz hpo];rfl) (ba.okv p) fun i33 G35 s35=>?_;obtain⟨k0,k1,k2,_⟩:=ba.fld hpo (au.own (i:=0) s35 rfl);intro J83;have jbad:¬ vC o q l->J83 (.bool true) G35:=by
     intro h;simp -zeta only [J83,aN];exact hno h _ s35.ch
    have jgood:(0≤p.id/\1≤p.amount/\p.amount≤jb)->J83 (.bool false) G35:=by
     intro hfine;simp -zeta only [J83,aK];intro R44 hR44;have inner:∀ (m x:Nat) (G':ak),j-x=m->x≤j->(∀ q∈l.take x,¬ (p.ours=true/\q.ours=false)/\¬ (p.ours=q.ours/\p.id≤q.id))->Sp [] G [au i33 p.av,au i1 (gH o q v)] G' ->
       R44 [.ptr i1 [] 0,.int .i64 (j:Int),.ptr i33 [] 0,.int .i64 (x:Int)] G':=by
      intro m;induction m with
      | zero=>
       intro x G' hm hx hall2 hs;have:x=j:=(by omega);subst this;refine hR44 _ _ _ _ _ ?_;rw[aM,aa,aI];refine⟨fun h=>absurd h (by omega),fun _=>?_⟩;rw[bg,aa,i64_in (by omega) (by omega)];exact ih (x+1) G' (by omega) (by omega) (hnext ⟨hfine.1,hfine.2.1,hfine.2.2,hall2⟩) (hs.erase 0)
      | succ m ihm=>
       intro x G' hm hx hall2 hs;obtain⟨y,hy⟩:∃ y,l[x]?=some y:=⟨_,List.getElem?_eq_getElem (by omega)⟩;have hyo:=hok y (List.mem_of_getElem? hy);obtain⟨_,_,f2,_⟩:=lI hv1 hv2 (au.own (i:=1) hs rfl);obtain⟨b,hb,hlb⟩:=vj (hl.ch' hs.ch) hy;have hymem:y∈l.take j:=List.mem_of_getElem? (i:=x) (by rw[List.getElem?_take_of_lt (by omega)];exact hy);refine hR44 _ _ _ _ _ ?_;rw[aM,aa,aI];refine⟨fun _=>?_,fun h=>absurd (by omega) h⟩;intro J82;show wv (ag T G' aw (.ptr i1 [2] 2)) _;rw[f2,aa,hb,aa,hlb,aa];refine jL hs eP (ba.fits hyo) (by rw[ba.sz hyo];rfl) (ba.okv y) fun i55 G57 s57=>?_;obtain⟨y0,y1,y2,_⟩:=ba.fld hyo (au.own (i:=0) s57 rfl);obtain⟨p0,p1,p2,_⟩:=ba.fld hpo (au.own (i:=1) s57 rfl);have go:¬ (p.ours=true/\y.ours=false)->¬ (p.ours=y.ours/\p.id≤y.id)->J82 G57:=by
        intro h1 h2;simp -zeta only [J82];rw[bg,aa,i64_in (by omega) (by omega)];refine ihm (x+1) G57 (by omega) (by omega) (fun q hq=>?_) (s57.erase 0);rw[List.take_add_one,hy]at hq;rcases List.mem_append.1 hq with hq|hq
        ·exact hall2 q hq
        ·have:q=y:=(by simpa using hq);subst this;exact⟨h1,h2⟩
       have stop:((p.ours=true/\y.ours=false)\/(p.ours=y.ours/\p.id≤y.id))->Q (.bool false) G57:=fun h=>by
        refine hno (hbadp fun hk=>?_) _ s57.ch;have:=hk.pair y hymem;rcases h with h|h
        ·exact this.1 h
        ·exact this.2 h
       have tail:¬ (p.ours=true/\y.ours=false)->(wv (ag T G57 du (.ptr i33 [0] 0)) fun v63=>wv (ag T G57 du (.ptr i55 [0] 0)) fun v64=>wv (az T .eql du v63 v64) fun v65=>brB (some v65)
         (wv (ag T G57 aq (.ptr i55 [1] 1)) fun v66=>wv (ag T G57 aq (.ptr i33 [1] 1)) fun v68=>wv (az T .geq aq v66 v68) fun v69=>brB (some v69) (Q (.bool false) G57) (J82 G57)) (J82 G57)):=by
        intro hn;rw[p0,aa,y0,aa,wU lL rfl,aa,gO];refine⟨fun h=>?_,fun h=>go hn fun hh=>by rw[hh.1]at h;simp at h⟩;rw[y1,aa,p1,aa,fI,aa,aI];exact⟨fun h2=>stop (.inr ⟨by simpa using h,h2⟩),fun h2=>go hn fun hh=>h2 hh.2⟩
       show wv (ag T G57 du (.ptr i33 [0] 0)) _;rw[p0,aa,gO];refine⟨fun h=>?_,fun h=>?_⟩
       ·refine ae y0 ?_;rw[dx,aa,gO];refine⟨fun h2=>stop (.inl ⟨h,by simpa using h2⟩),fun h2=>tail fun hh=>by rw[hh.2]at h2;cases h2⟩
       ·exact tail fun hh=>by rw[h]at hh;cases hh.1
     exact inner _ 0 G35 rfl (by omega) (by simp) s35
    rw[k1,aa,aM,aa,aI];refine⟨fun h=>jbad (hbadp fun hk=>by have:=hk.id;omega),fun h1=>?_⟩;rw[k2,aa,aM,aa,aI];refine⟨fun h=>jbad (hbadp fun hk=>by have:=hk.amount;omega),fun h2=>?_⟩;rw[aa,da,aa];by_cases h3:mA<p.amount
    ·rw[dT_ h3];exact jbad (hbadp fun hk=>by have:=hk.most;omega)
    ·rw[dF_ h3];exact jgood ⟨by omega,by omega,by omega⟩
  exact outer _ 0 G2 rfl (by omega) trivial s1
 rw[f0,aa,aM,aa,aI];refine⟨fun h=>hbad fun hh=>by have:=hh.o0;omega,fun h0=>?_⟩;rw[aa,da,aa,aI];refine⟨fun h=>hbad fun hh=>by have:=hh.o1;omega,fun h1=>?_⟩;rw[f1',aa,aM,aa,aI];refine⟨fun h=>hbad fun hh=>by have:=hh.q0;omega,fun h2=>?_⟩;rw[aa,da,aa,aI];refine⟨fun h=>hbad fun hh=>by have:=hh.q1;omega,fun h3=>?_⟩;rw[f2,aa];refine eg.use (hl.ch' s1.ch) hok hlen ?_;rw[da,aa,aI];refine⟨fun h=>hbad fun hh=>by have:=hh.t;omega,fun h4=>?_⟩;refine ae f2 ?_;refine eg.use (hl.ch' s1.ch) hok hlen ?_;rw[da,aa];by_cases h5:(483:Int)<(cnt false l:Nat)
 ·rw[dT_ h5];exact hbad fun hh=>by have:=hh.f;omega
 ·rw[dF_ h5];exact hgood fun hk=>⟨by omega,by omega,by omega,by omega,by omega,by omega,hk⟩
theorem cH.use {bs:List UInt8}{s:ah}{v n i:Nat}(hs:Sp F0 G0 ps G) (hi:ps[i]?=some (bm 1 s (bs.map u8v))) (hn:n≤8) (hl:bs.length+n≤140737488355328) (hv:v<2 ^ 63)
  (hQ:∀ s' G',Sp F0 G0 (ps.set i (bm 1 s' ((bs++be n v).map u8v))) G'->Q s' G'):al P cH.n [s,.int .i64 (v:Int),.int .i64 (n:Int)] G Q:=by
 refine cH.sound ?_;unfold cH.S;rw[b7,aa,i64_in (by omega) (by omega)];intro R hR;have loop:∀ (m:Nat) (bs':List UInt8) (s':ah) (ps':List LP) (G':ak),m≤n->bs'++be m v=bs++be n v->bs'.length+m≤bs.length+n->ps'=ps.set i (bm 1 s' (bs'.map u8v))->i<ps.length->Sp F0 G0 ps' G'->R [s',.int .i64 (v:Int),.int .i64 ((m:Int)-1)] G':=by
  intro m;induction m with
  | zero=>
   intro bs' s' ps' G' hm he hln hps hil hs;subst hps;refine hR _ _ _ _ ?_;rw[fI,aa,aI];refine⟨fun h=>absurd h (by omega),fun _=>?_⟩;rw[be,List.append_nil]at he;subst he;exact hQ _ _ hs
  | succ m ih=>
   intro bs' s' ps' G' hm he hln hps hil hs;refine hR _ _ _ _ ?_;have ei:((m+1:Nat):Int)-1=(m:Int):=(by omega);rw[ei,fI,aa,aI];refine⟨fun _=>?_,fun h=>absurd (by omega) h⟩;rw[kP,aa,i64_in (by omega) (by omega),nB _ _ _ _ _ _ (by omega),aa,jk cu cW rfl,aa,show IntKind.i64.bits=IntKind.u64.bits from rfl,vR v m (by omega),<- nr];have hi':ps'[i]?=some (bm 1 s' (bs'.map u8v)):=(by rw[hps,List.getElem?_set_self hil]);refine wm (T:=T) (ts:=aR) (e:=cm) (si:=fJ) (ie:=gi) eC rfl cW rfl (by decide) hs hi' rfl rfl (by decide) ?_ fun s2 G2 hs2=>?_
   ·simp only[List.length_map,gi];omega
   ·rw[b7,aa,i64_in (by omega) (by omega)];refine ih (bs'++[UInt8.ofNat (v/2 ^ (8*m))]) s2 _ G2 (by omega) ?_ (by simp;omega) ?_ hil hs2
    ·rw[<- he,be];simp
    ·rw[hps,List.set_set,List.map_append];rfl
 have hil:i<ps.length:=(List.getElem?_eq_some_iff.1 hi).1;refine loop n bs s ps G (Nat.le_refl _) rfl (Nat.le_refl _) ?_ hil hs;obtain⟨hx,e⟩:=List.getElem?_eq_some_iff.1 hi;rw[<- e,List.set_getElem_self]
theorem ua {bs:List UInt8}{s:ah}{x nn:Int}{i:Nat}(n:Nat) (hnn:nn=(n:Int)) (h0:0≤x) (h1:x≤9223372036854775807) (hs:Sp F0 G0 ps G) (hi:ps[i]?=some (bm 1 s (bs.map u8v))) (hn:n≤8) (hl:bs.length+n≤140737488355328)
  (hQ:∀ s' G',Sp F0 G0 (ps.set i (bm 1 s' ((bs++be n (kn x)).map u8v))) G'->Q s' G'):al P cH.n [s,.int .i64 x,.int .i64 nn] G Q:=by
 subst hnn;have e:x=((kn x:Nat):Int)/\kn x<2 ^ 63:=by unfold kn;omega
 have:=cH.use (Q:=Q) hs hi hn hl e.2 hQ
 rwa [<- e.1]at this
theorem La {s:ah}{l hs':List UInt8}{i:Nat}{K:ah->ak->Prop}{x:ah}(hs:Sp F0 G0 ps G) (hi:ps[i]?=some (bm 1 s (l.map u8v))) (hx:gq G 1 x=some (hs'.map u8v)) (hl:l.length+hs'.length≤140737488355328)
  (hK:∀ s' G',Sp F0 G0 (ps.set i (bm 1 s' ((l++hs').map u8v))) G'->K s' G'):cn T G aR aR s x K:=by
 refine uN (T:=T) (ts:=aR) (e:=cm) (si:=fJ) (ie:=gi) (tx:=aR) (xi:=fJ) eC rfl cW rfl (by decide) eC (.inr ⟨_,rfl⟩) hs hi hx (kd _) (kM _) ?_ fun s' G' h=>hK s' G' ?_
 ·simp only[List.length_map,gi];omega
 ·rw[List.map_append];exact h
theorem HC {i:AId}{p:ba}(h:p.ok) (hg:G i=some (.own p.av)):∃ x,dV T ar (.ptr i [3] 3) none none none=some x/\gq G 1 x=some (p.hash.map u8v):=by
 have e1:T ar=some dQ:=bZ;have e2:dQ.desc=.array 32 cm:=rfl;refine⟨.slice i [3] 0 3 32 32,by simp[dV,e1,e2,cW,j8,lH,gi],?_⟩;have hh:=h.hash;have ha:lO G 1 i [3] 0 3=some (p.hash.map u8v):=by
  simp[lO,nI,hg,mQ,ba.av,sub,szs,Esc.sz,kd]
 rw[gq,ha];simp[hh,List.take_of_length_le]
theorem Fl {i:AId}{hs:List UInt8}(hl:hs.length=32) (hg:G i=some (.own (.agg (hs.map u8v)))):gq G 1 (.slice i [] 0 0 32 32)=some (hs.map u8v):=(qR hg hl).elems
theorem eV.use {owner index o q:Int}{point:List UInt8}{v:ah}{l:List ba}(hp:point.length=32) (hl:ff 35 G v (l.map ba.av)) (hok:∀ p∈l,p.ok) (hlen:l.length≤9223372036854775807)
  (hQ:∀ G',Ch [] G [] G'->Q (.tuple [.str (oI owner index point o q l).1,.int .i64 (oI owner index point o q l).2]) G') :
  al P eV.n [.int .i64 owner,.int .i64 index,.agg (point.map u8v),gH o q v] G Q:=by
 obtain⟨hv1,hv2,_⟩:=tU hl;refine eV.sound ?_;unfold eV.S;obtain⟨mI,hmI⟩:∃ m,m=(281474976710655:Int):=⟨_,rfl⟩;rw[<- hmI];have hmax:vZ=mI:=by rw[hmI];rfl
 intro i1 f1;have s1:=(Sp.nil G).row f1 (.agg (point.map u8v));intro i3 f3;have s3:=s1.row f3 (gH o q v);revert s3;generalize ak.upd _ i3 (.own (gH o q v))=G4;intro s3 J68;have hbad:qZ owner index->J68 (.bool true) G4:=by
  intro h;simp -zeta only [J68,aN];have:=hQ _ s3.ch;rw[oI,if_pos h]at this;exact this
 have hgood:¬ qZ owner index->J68 (.bool false) G4:=by
  intro h;rw[oI,if_neg h]at hQ;have ho:0≤owner/\owner≤1/\0≤index/\index≤281474976710655:=by
   unfold qZ at h;rw[hmax,hmI]at h;omega
  clear hmax hmI hbad;simp -zeta only [J68,aK];refine ae (lI hv1 hv2 (au.own (i:=0) s3 rfl)).2.2.2 ?_;refine fk.use (hl.ch' s3.ch) hok hlen fun G13 c13=>?_;have s13:=s3.tmp c13;rw[dx,aa];cases hsd:lG o q l with
  | false=>
   rw[Bool.not_false,aN];have:=hQ _ s13.ch;rw[hsd]at this;exact this
  | true=>
   rw[Bool.not_true,aK];have hl966:=qQ hsd;have hsD:=(vc _ _ _).1 hsd;have hoq:0≤o/\o≤1152921504606846976/\0≤q/\q≤1152921504606846976:=⟨hsD.o0,hsD.o1,hsD.q0,hsD.q1⟩;have hmem:∀ p∈l,0≤p.id/\1≤p.amount/\p.amount≤1152921504606846976:=fun p hp=>hsD.l.mem p hp;have hb64:∀ x:Int,0≤x->x≤9223372036854775807->x=((kn x:Nat):Int)/\kn x<2 ^ 63:=fun x h0 h1=>by
    unfold kn;omega
   simp only[hsd,cond_true]at hQ;refine ae (Gt owner (by omega) (by omega)) ?_;have eu:ah.int .u8 ((owner.toNat:Nat):Int)=u8v (UInt8.ofNat owner.toNat):=by
    rw[nr];congr 1;omega
   rw[eu];refine Df (T:=T) (ts:=aR) (e:=cm) (si:=fJ) (ie:=gi) eC rfl cW rfl s13 rfl (by decide) fun v16 G17 s17=>?_;have s17:Sp [] G [bm 1 v16 ((be 1 owner.toNat).map u8v),au i3 (gH o q v),au i1 (.agg (point.map u8v))] G17:=by
    have e:[u8v (UInt8.ofNat owner.toNat)]=(be 1 owner.toNat).map u8v:=(by simp[be]);rw[<- e];exact s17
   refine ua 8 rfl (by omega) (by omega) s17 (i:=0) rfl (by omega) (by simp[iH]) fun v18 G19 s19=>?_;rw[pk,aa];refine La (i:=0) s19 rfl (Fl hp (au.own (i:=2) s19 rfl)) (by simp[iH,hp]) fun v21 G22 s22=>?_;refine ae (lI hv1 hv2 (au.own (i:=1) s22 rfl)).1 ?_;refine ua 8 rfl (by omega) (by omega) s22 (i:=0) rfl (by omega) (by simp[iH,hp]) fun v24 G25 s25=>?_;refine ae (lI hv1 hv2 (au.own (i:=1) s25 rfl)).2.1 ?_;refine ua 8 rfl (by omega) (by omega) s25 (i:=0) rfl (by omega) (by simp[iH,hp]) fun v27 G28 s28=>?_;refine ae (lI hv1 hv2 (au.own (i:=1) s28 rfl)).2.2.1 ?_;have hlen':∀ G',Ch [] G [] G'->fU T G' aw v=some (.int .i64 (l.length:Nat)):=fun G' c=>by
    rw[(hl.ch' c).len (i:=b8) cy rfl,List.length_map]
   refine ae (hlen' _ s28.ch) ?_;refine ua 2 rfl (by omega) (by omega) s28 (i:=0) rfl (by omega) (by simp[iH,hp]) fun v31 G32 s32=>?_;have e2:kn ((l.length:Nat):Int)=l.length:=(by unfold kn;omega);rw[e2]at s32;obtain⟨H,hH,hHl⟩:∃ H:List UInt8,be 1 owner.toNat++be 8 (kn index)++point++be 8 (kn o)++be 8 (kn q)++be 2 l.length=H/\H.length=59:=⟨_,rfl,by simp[iH,hp]⟩;have htb:vK owner index point o q l=H++l.flatMap ba.bytes:=(by rw[<- hH];simp[vK]);have s32:Sp [] G [bm 1 v31 (H.map u8v),au i3 (gH o q v),au i1 (.agg (point.map u8v))] G32:=by
    rw[<- hH];exact s32
   have hfm:∀ j,((l.take j).flatMap ba.bytes).length≤49*l.length:=by
    intro j;rw[yn (fun p hp=>hok p (List.mem_of_mem_take hp)),List.length_take];omega
   intro R33 hR33;have loop:∀ (n j:Nat) (w:ah) (G':ak),l.length-j=n->j≤l.length->Sp [] G [bm 1 w ((H++(l.take j).flatMap ba.bytes).map u8v),au i3 (gH o q v),au i1 (.agg (point.map u8v))] G' ->
     R33 [.ptr i3 [] 0,w,.int .i64 (j:Int)] G':=by
    intro n;induction n with
    | zero=>
     intro j w G' hn hj hs;have:j=l.length:=(by omega);subst this;rw[List.take_of_length_le (Nat.le_refl _),<- htb]at hs;refine hR33 _ _ _ _ ?_;show wv (ag T G' aw (.ptr i3 [2] 2)) _;refine ae (lI hv1 hv2 (au.own (i:=1) hs rfl)).2.2.1 ?_;refine ae (hlen' _ hs.ch) ?_;rw[aM,aa,aI];refine⟨fun h=>absurd h (by omega),fun _=>?_⟩;rw[km (si:=fJ) (ie:=gi) (di:=iO) eC rfl cW rfl fS rfl (bm.own (i:=0) hs rfl).is,aa];exact hQ _ hs.ch
    | succ n ih=>
     intro j w G' hn hj hs;obtain⟨p,hp'⟩:∃ p,l[j]?=some p:=⟨_,List.getElem?_eq_getElem (by omega)⟩;have hpo:=hok p (List.mem_of_getElem? hp');have hpm:=hmem p (List.mem_of_getElem? hp');obtain⟨a,ha,hla⟩:=vj (hl.ch' hs.ch) hp';have hfj:=hfm j;refine hR33 _ _ _ _ ?_;show wv (ag T G' aw (.ptr i3 [2] 2)) _;refine ae (lI hv1 hv2 (au.own (i:=1) hs rfl)).2.2.1 ?_;refine ae (hlen' _ hs.ch) ?_;rw[aM,aa,aI];refine⟨fun _=>?_,fun h=>absurd (by omega) h⟩;show wv (ag T G' aw (.ptr i3 [2] 2)) _;refine ae (lI hv1 hv2 (au.own (i:=1) hs rfl)).2.2.1 ?_;rw[ha,aa,hla,aa];refine jL hs eP (ba.fits hpo) (by rw[ba.sz hpo];rfl) (ba.okv p) fun i47 G49 s49=>?_;refine ae (ba.fld hpo (au.own (i:=0) s49 rfl)).1 ?_;intro J65;have h65:∀ (x:UInt8),[x]=be 1 (bif p.ours then 1 else 0)->J65 (u8v x) G49:=by
      intro x hx;simp -zeta only [J65];refine wm (T:=T) (ts:=aR) (e:=cm) (si:=fJ) (ie:=gi) (i:=1) eC rfl cW rfl (by decide) s49 rfl rfl rfl (by decide) (by simp only[List.length_map,List.length_append,gi];omega) fun v54 G55 s55=>?_;have s55:Sp [] G [au i47 p.av,bm 1 v54 ((H++(l.take j).flatMap ba.bytes++[x]).map u8v),au i3 (gH o q v),au i1 (.agg (point.map u8v))] G55:=by
       rw[List.map_append];exact s55
      rw[hx]at s55;refine ae (ba.fld hpo (au.own (i:=0) s55 rfl)).2.1 ?_;refine ua 8 rfl (by omega) (hpo.id.2) s55 (i:=1) rfl (by omega) (by simp only[List.length_append,iH];omega) fun v57 G58 s58=>?_;refine ae (ba.fld hpo (au.own (i:=0) s58 rfl)).2.2.1 ?_;refine ua 8 rfl (by omega) (hpo.amount.2) s58 (i:=1) rfl (by omega) (by simp only[List.length_append,iH];omega) fun v60 G61 s61=>?_;obtain⟨y,hy1,hy2⟩:=HC hpo (au.own (i:=0) s61 rfl);refine ae hy1 ?_;have hph:=hpo.hash;refine La (i:=1) s61 rfl hy2 (by simp only[List.length_append,iH];omega) fun v63 G64 s64=>?_;rw[bg,aa,i64_in (by omega) (by omega)];refine ih (j+1) v63 G64 (by omega) (by omega) ?_;have e:H++(l.take (j+1)).flatMap ba.bytes=H++(l.take j).flatMap ba.bytes++be 1 (bif p.ours then 1 else 0)++be 8 (kn p.id)++be 8 (kn p.amount)++p.hash:=by
       rw[List.take_add_one,hp'];simp[ba.bytes]
      rw[e];exact s64.erase 0
     rw[gO];refine⟨fun h=>h65 1 (by rw[h];rfl),fun h=>h65 0 (by rw[h];rfl)⟩
   exact loop _ 0 v31 G32 rfl (by omega) (by simpa using s32)
 rw[aM,aa,aI];refine⟨fun h=>hbad (.inl h),fun h0=>?_⟩;rw[da,aa,aI];refine⟨fun h=>hbad (.inr (.inl h)),fun h1=>?_⟩;rw[aM,aa,aI];refine⟨fun h=>hbad (.inr (.inr (.inl h))),fun h2=>?_⟩;rw[da,aa];by_cases h3:mI<index
 ·rw[dT_ h3];exact hbad (.inr (.inr (.inr (by rw[hmax];exact h3))))
 ·rw[dF_ h3];refine hgood fun h=>?_;rcases h with h|h|h|h
  ·exact h0 h
  ·exact h1 h
  ·exact h2 h
  ·exact h3 (by rw[<- hmax];exact h)
end
end Go.Esc.M
namespace Go.Esc.M
open Go Go.Esc
structure Com where
 owner:Int
 index:Int
 point:List UInt8
 o:Int
 q:Int
 l:List ba
def Com.text (c:Com):List UInt8:=vK c.owner c.index c.point c.o c.q c.l
structure Com.Valid (c:Com):Prop where
 arg:¬ qZ c.owner c.index
 sound:lG c.o c.q c.l=true
 point:c.point.length=32
 ok:∀ p∈c.l,p.ok
section
variable {F0:List AId}{G0 G:ak}{ps:List LP}{Q:ah->ak->Prop}
theorem rd {id:AId}{st st':List UInt8×Int}{out:ah}{n:FuncId}{args:List ah}{i:Nat}{K:ah->ak->Prop}(hs:Sp F0 G0 ps G) (hi:ps[i]?=some (RdL id st))
  (huse:∀ {G:ak}{Q:ah->ak->Prop},Rd id st G->(∀ G',Rd id st' G'->Ch [id] G [id] G'->Q out G')->al P n args G Q)
  (hK:∀ G',Sp F0 G0 (ps.set i (RdL id st')) G'->K out G'):al P n args G K:=by
 refine hs.call hi (RdL id st') fun F h k=>?_;obtain⟨h,rfl⟩:=h;exact huse h fun G' r c=>hK _ (k _ _ ⟨r,rfl⟩ c)
theorem RdL.rd {id:AId}{st:List UInt8×Int}{i:Nat}(h:Sp F0 G0 ps G) (hi:ps[i]?=some (RdL id st)):Rd id st G:=by
 obtain⟨F,h,_⟩:=h.get hi;exact h
theorem GQ {i:Nat}{id:AId}{o q:Int}{v w:ah}(hs:Sp F0 G0 ps G) (hi:ps[i]?=some (au id (gH o q v))) (hv:sz v=1) (hw:sz w=1/\w.isAgg=false/\okv w=true) {K:ak->Prop}(hK:∀ G',Sp F0 G0 (ps.set i (au id (gH o q w))) G'->K G') :
  wg (aF T G aw (.ptr id [2] 2) w) K:=by
 refine fg (mG (c:=w) (u:=v) (au.own hs hi) rfl rfl cy (by simp[dD,hw.1,hw.2.1,b8,kZ.isAgg]) (by rw[hv,hw.1]) hw.2.2) ?_;exact hK _ (Sp.setRow hs hi _)
theorem rr {o q:Int}{w:ah}(hw:sz w=1/\w.isAgg=false/\okv w=true):dD lN (gH o q w)=true/\sz (gH o q w)=3/\okv (gH o q w)=true:=by
 refine⟨?_,?_,?_⟩
 ·simp[dD,gH,sz,szs,hw.1,lN,ah.isAgg,kZ.isAgg]
 ·simp[gH,sz,szs,hw.1]
 ·simp[gH,okv,mz,hw.2.2]
theorem nN {i:Nat}{id:AId}{o q o' q':Int}{v w:ah}(hs:Sp F0 G0 ps G) (hi:ps[i]?=some (au id (gH o q v))) (hv:sz v=1) (hw:sz w=1/\w.isAgg=false/\okv w=true) {K:ak->Prop}(hK:∀ G',Sp F0 G0 (ps.set i (au id (gH o' q' w))) G'->K G') :
  wg (aF T G aX (.ptr id [] 0) (gH o' q' w)) K:=by
 obtain⟨h1,h2,h3⟩:=rr (o:=o') (q:=q') hw;refine fg (ig ng (au.own hs hi) h1 (by rw[h2];simp[gH,sz,szs,hv]) h3) ?_;exact hK _ (Sp.setRow hs hi _)
theorem sq {i:Nat}{id:AId}{h h':List UInt8}(hs:Sp F0 G0 ps G) (hi:ps[i]?=some (au id (.agg (h.map u8v)))) (hl:h.length=32) (hl':h'.length=32) {K:ak->Prop}(hK:∀ G',Sp F0 G0 (ps.set i (au id (.agg (h'.map u8v)))) G'->K G') :
  wg (aF T G ar (.ptr id [] 0) (.agg (h'.map u8v))) K:=by
 refine fg (gA hl hl' (au.own hs hi)) ?_;exact hK _ (Sp.setRow hs hi _)
theorem iI {i:Nat}{id:AId}{o q:Int}{v:ah}(hs:Sp F0 G0 ps G) (hi:ps[i]?=some (au id (gH o q v))) (hv:sz v=1/\v.isAgg=false/\okv v=true) :
  ag T G aq (.ptr id [0] 0)=some (.int .i64 o)/\ag T G aq (.ptr id [1] 1)=some (.int .i64 q)/\ag T G aw (.ptr id [2] 2)=some v/\ag T G aX (.ptr id [] 0)=some (gH o q v):=
 lI hv.1 hv.2.1 (au.own hs hi)
theorem Mr {pl:Nat->Option (Nat×Nat)}(e0:pl 0=some (0,1)) (e1:pl 1=some (1,1)) (e2:pl 2=some (2,1)) (e3:pl 3=some (3,32)) {b:Bool}{m n:Int}{zh h:ah}(hz:sz zh=32) (hh:sz h=32) :
  nx pl [.bool false,.int .i64 0,.int .i64 0,zh] [(0,.bool b),(1,.int .i64 m),(2,.int .i64 n),(3,h)]=some [.bool b,.int .i64 m,.int .i64 n,h]:=by
 simp[nx,e0,e1,e2,e3,sz,szs,hh,hz]
theorem Cn {p:ba}(h:p.ok):bj T aT [(0,.bool p.ours),(1,.int .i64 p.id),(2,.int .i64 p.amount),(3,.agg (p.hash.map u8v))]=some p.av:=by
 have h1:sz (.agg (p.hash.map u8v))=32:=by rw[sz,gX (n:=1) (kd p.hash)];simp[h.hash]
 obtain⟨zh,hz,hzh⟩:∃ zh,jQ=.agg [.bool false,.int .i64 0,.int .i64 0,zh]/\sz zh=32:=⟨_,rfl,rfl⟩;have hf:=Mr (pl:=places T [(du,0),(aq,1),(aq,2),(ar,3)]) rfl rfl rfl rfl (b:=p.ours) (m:=p.id) (n:=p.amount) hzh h1;have ha:[(du,0),(aq,1),(aq,2),(ar,3)].all (fun g=>(T g.1).isSome)=true:=rfl;unfold bj;have e1:dS.desc=.struct [(du,0),(aq,1),(aq,2),(ar,3)]:=rfl;have e2:dS.zero=.agg [.bool false,.int .i64 0,.int .i64 0,zh]:=hz;simp only[eP,e1,e2,ha,if_true,hf];rfl
theorem J5:jJ=gH 0 0 .nilSlice:=rfl
theorem rl:sz .nilSlice=1/\ah.nilSlice.isAgg=false/\okv .nilSlice=true:=⟨rfl,rfl,rfl⟩
theorem Lg:(List.replicate 32 (0:UInt8)).length=32:=rfl
end
end Go.Esc.M
namespace Go.Esc.M
open Go Go.Esc
def slice (b:List UInt8) (at_ n:Nat):List UInt8:=(b.drop at_).take n
theorem LM (n:Int):I64 (IntKind.i64.wrap n):=vt.1 (wf_wrap .i64 n)
theorem IF {b:List UInt8}{at_ n:Nat}{nn:Int}(hn:nn=(n:Int)) (h:at_+n≤b.length):takes (b.drop at_,0) nn=(slice b at_ n,(b.drop (at_+n),0)):=by
 subst hn;rw[IE (by rw[List.length_drop];omega),Int.toNat_natCast,List.drop_drop];rfl
section
variable {F0:List AId}{G0 G:ak}{ps:List LP}{Q:ah->ak->Prop}
end
end Go.Esc.M
namespace Go.Esc
open Go Go.RowKit
section
variable {T:Tbl}{ts e:TypeId}{si ie:TI} (ht:T ts=some si) (hd:si.desc=.slice e) (he:T e=some ie) (hz:sz ie.zero=ie.size)
variable {F0:List AId}{G0 G:ak}{ps:List LP}{K:ah->ak->Prop}
include ht hd he hz in
theorem Hh {a b:ah}(hs:Sp F0 G0 ps G) (ha:sz a=ie.size) (hb:sz b=ie.size) (hie:2*ie.size≤16777216) (hK:∀ s' G',Sp F0 G0 (bm ie.size s' [a,b]::ps) G'->K s' G'):bu T ts 2 [(0,a),(1,b)] G K:=by
 unfold bu;have hf:nx (fun k=>some (k*ie.size,ie.size)) (List.replicate 2 ie.zero) [(0,a),(1,b)]=some [a,b]:=by simp[nx,hz,ha,hb,szs,List.replicate]
 simp only[ht,hd,he,hf];refine⟨by omega,fun id hfr=>hK _ _ (hs.new (p:=bm ie.size _ [a,b]) ⟨.inr ⟨id,2,2,[a,b],rfl,ak.dR _ _ _,rfl,Nat.le_refl _,by simp[Esc.uni,ha,hb],rfl⟩,rfl⟩ ?_)⟩;simpa[rowOf] using Ch.new hfr
end
end Go.Esc
namespace Go.Esc.M
open Go Go.Esc
theorem zu {a b:List UInt8}(ha:a.length=32) (hb:b.length=32):kV T 8 ar (.agg (a.map u8v)) (.agg (b.map u8v))=some (decide (a=b)):=by
 rw[q8 (i:=dQ) bZ rfl cW,xL (ie:=gi) cW rfl rfl 6 32 a b ha hb]
def kW (b:Bool) (l:List ba):List ba:=(l.filter (fun p=>p.ours != b)).map (fun p=>{ p with ours:=b })
def pE (l:List ba):List ba:=kW true l++kW false l
theorem zD {b:Bool}{l:List ba}{j:Nat}{p:ba}(h:l[j]?=some p):kW b (l.take (j+1))=kW b (l.take j)++(if p.ours=b then [] else [{ p with ours:=b }]):=by
 rw[List.take_add_one,h];unfold kW;rw[List.filter_append,List.map_append];congr 1;cases ho:p.ours<;>cases b<;>simp[ho]
theorem we (b:Bool) (l:List ba):(kW b l).length≤l.length:=by
 rw[kW,List.length_map];exact List.length_filter_le _ _
theorem DL (b:Bool) (l:List ba) (j:Nat):(kW b (l.take j)).length≤(kW b l).length:=by
 rw[kW,kW,List.length_map,List.length_map];exact ((List.take_sublist j l).filter _).length_le
theorem ba.ok.side {p:ba}(h:p.ok) (b:Bool):({ p with ours:=b }:ba).ok:=⟨h.id,h.amount,h.hash⟩
theorem DK {b:Bool}{l:List ba}(h:∀ p∈l,p.ok):∀ p∈kW b l,p.ok:=by
 intro p hp;rw[kW]at hp;obtain⟨q,hq,rfl⟩:=List.mem_map.1 hp;exact (h q (List.mem_filter.1 hq).1).side b
theorem zF {l:List ba}(h:∀ p∈l,p.ok):∀ p∈pE l,p.ok:=by
 intro p hp;rcases List.mem_append.1 hp with hp|hp
 ·exact DK h p hp
 ·exact DK h p hp
theorem pI (l:List ba):(pE l).length=l.length:=by
 induction l with
 | nil=>rfl
 | cons p l ih=>
  have:∀ b,(kW b (p::l)).length=(kW b l).length+(if p.ours=b then 0 else 1):=by
   intro b;unfold kW;cases ho:p.ours<;>cases b<;>simp[ho]
  rw[pE,List.length_append]at ih ⊢;rw[this,this,List.length_cons];cases ho:p.ours<;>simp[ho]<;>omega
section
variable {F0:List AId}{G0 G:ak}{ps:List LP}{Q:ah->ak->Prop}
theorem D9 {i:Nat}{id:AId}{p:ba}(hs:Sp F0 G0 ps G) (hi:ps[i]?=some (au id p.av)) (b:Bool) {K:ak->Prop}(hK:∀ G',Sp F0 G0 (ps.set i (au id ({ p with ours:=b }:ba).av)) G'->K G'):wg (aF T G du (.ptr id [0] 0) (.bool b)) K:=by
 refine fg (mG (c:=.bool b) (u:=.bool p.ours) (au.own hs hi) rfl rfl lL rfl rfl rfl) ?_;exact hK _ (Sp.setRow hs hi _)
theorem jD.use {o q:Int}{v:ah}{l:List ba}(hl:ff 35 G v (l.map ba.av)) (hok:∀ p∈l,p.ok) (hlen:l.length*56≤140737488355328) (hQ:∀ s G',Sp [] G [bm 35 s ((pE l).map ba.av)] G'->Q (gH q o s) G') :
  al P jD.n [gH o q v] G Q:=by
 have hv:=tU hl;refine jD.sound ?_;unfold jD.S;rw[J5];intro i1 f1;have s1:=(Sp.nil G).row f1 (gH o q v);intro i3 f3;have s3:=s1.row f3 (gH 0 0 .nilSlice);refine ae (iI (i:=1) s3 rfl hv).2.1 ?_;refine ae (iI (i:=1) s3 rfl hv).1 ?_;refine ae (v:=gH q o .nilSlice) rfl ?_;intro i8 f8;have s8:=s3.row f8 (gH 0 0 .nilSlice);refine nN (i:=0) s8 rfl rfl rl fun G10 s10=>?_;refine Hh (T:=T) (ts:=om) (e:=du) (si:=oZ) (ie:=rT) xW rfl lL rfl s10 rfl rfl (by decide) fun v11 G12 s12=>?_;have s12:Sp [] G [bm 1 v11 [.bool true,.bool false],au i8 (gH q o .nilSlice),au i3 (gH 0 0 .nilSlice),au i1 (gH o q v)] G12:=s12;have bl:∀ {G':ak},Own 1 G' v11 [.bool true,.bool false]->fU T G' om v11=some (.int .i64 2):=fun h=>h.is.len (i:=oZ) xW rfl;refine ae (bl (bm.own (i:=0) s12 rfl)) ?_;have s12:=s12.nz 35;have ln:∀ {G':ak},Ch [] G [] G'->fU T G' aw v=some (.int .i64 (l.length:Nat)):=fun c=>by
  rw[(hl.ch' c).len (i:=b8) cy rfl,List.length_map]
 intro R14 hR14;have inner:∀ (side:Bool) (acc:List ba) (y:Int) (G':ak) (s:ah),acc.length+(kW side l).length≤l.length ->
   Sp [] G [bm 35 s (acc.map ba.av),bm 1 v11 [.bool true,.bool false],au i8 (gH q o s),au i3 (gH 0 0 .nilSlice),au i1 (gH o q v)] G' ->
   (∀ (G':ak) (s:ah),Sp [] G [bm 35 s ((acc++kW side l).map ba.av),bm 1 v11 [.bool true,.bool false],au i8 (gH q o s),au i3 (gH 0 0 .nilSlice),au i1 (gH o q v)] G'->R14 [.ptr i1 [] 0,.ptr i3 [] 0,.ptr i8 [] 0,v11,.int .i64 2,.int .i64 (IntKind.i64.wrap (y+1))] G') ->
   wv (some (.bool side)) fun v24=>wv (bt T aX (.ptr i1 [] 0) 2) fun v25=>wv (ag T G' aw v25) fun v26=>wv (fU T G' aw v26) fun v27=>∀ R28:List ah->ak->Prop,
 (∀ (x30 x31 x32 x33 x34 x35 x36 x37 x38 x39:ah) (G29:ak),(wv (az T .lss ay x39 x38) fun v40=>brB (some v40)
 (wv (aO T aw x37 x39) fun v41=>wv (ag T G29 aT v41) fun v42=>br G29 (.own (jQ)) fun i43 G44=>wg (aF T G44 aT (.ptr i43 [] 0) v42) fun G45=>wv (ag T G45 du (.ptr i43 [0] 0)) fun v46=>wv (az T .neq du v46 x33) fun v47=>brB (some v47)
 (wg (aF T G45 du (.ptr i43 [0] 0) x33) fun G48=>wv (bt T aX x32 2) fun v49=>wv (ag T G48 aw v49) fun v50=>wv (ag T G48 aT (.ptr i43 [] 0)) fun v51=>bu T aw 1 [(0,v51)] G48 fun v52 G53=>cn T G53 aw aw v50 v52 fun v54 G55=>wv (bt T aX x32 2) fun v56=>wg (aF T G55 aw v56 v54) fun G57=>wv (az T .add ay x39 (.int .i64 1)) fun v61=>R28 [x30,x31,x32,x33,x34,x35,x36,x37,x38,v61] G57)
 (wv (az T .add ay x39 (.int .i64 1)) fun v62=>R28 [x30,x31,x32,x33,x34,x35,x36,x37,x38,v62] G45))
 (wv (az T .add ay x36 (.int .i64 1)) fun v63=>R14 [x30,x31,x32,x34,x35,v63] G29))->R28 [x30,x31,x32,x33,x34,x35,x36,x37,x38,x39] G29) ->
 R28 [.ptr i1 [] 0,.ptr i3 [] 0,.ptr i8 [] 0,v24,v11,.int .i64 2,.int .i64 y,v26,v27,.int .i64 0] G':=by
  intro side acc y G' s hacc hs hnext;rw[aa];show wv (ag T G' aw (.ptr i1 [2] 2)) _;refine ae (iI (i:=4) hs rfl hv).2.2.1 ?_;refine ae (ln hs.ch) ?_;intro R28 hR28;have lp:∀ (n x:Nat) (s:ah) (G':ak),l.length-x=n->x≤l.length->Sp [] G [bm 35 s ((acc++kW side (l.take x)).map ba.av),bm 1 v11 [.bool true,.bool false],au i8 (gH q o s),au i3 (gH 0 0 .nilSlice),au i1 (gH o q v)] G' ->
    R28 [.ptr i1 [] 0,.ptr i3 [] 0,.ptr i8 [] 0,.bool side,v11,.int .i64 2,.int .i64 y,v,.int .i64 (l.length:Nat),.int .i64 (x:Int)] G':=by
   intro n;induction n with
   | zero=>
    intro x s G' hn hx hs;have:x=l.length:=(by omega);subst this;rw[List.take_length]at hs;refine hR28 _ _ _ _ _ _ _ _ _ _ _ ?_;rw[aM,aa,aI];refine⟨fun h=>absurd h (by omega),fun _=>?_⟩;rw[bg,aa];exact hnext _ _ hs
   | succ n ih=>
    intro x s G' hn hx hs;obtain⟨p,hp⟩:∃ p,l[x]?=some p:=⟨_,List.getElem?_eq_getElem (by omega)⟩;have hpo:=hok p (List.mem_of_getElem? hp);obtain⟨a,ha,hla⟩:=vj (hl.ch' hs.ch) hp;have htt:=zD (b:=side) hp;refine hR28 _ _ _ _ _ _ _ _ _ _ _ ?_;rw[aM,aa,aI];refine⟨fun _=>?_,fun h=>absurd (by omega) h⟩;rw[ha,aa,hla,aa];refine jL hs eP (ba.fits hpo) (by rw[ba.sz hpo];rfl) (ba.okv p) fun i43 G45 s45=>?_;refine ae (ba.fld hpo (au.own (i:=0) s45 rfl)).1 ?_;rw[Ht lL rfl,aa,gO];refine⟨fun h=>?_,fun h=>?_⟩
    ·have hne:p.ours≠side:=(by simpa using h);rw[if_neg hne]at htt;refine D9 (i:=0) s45 rfl side fun G48 s48=>?_;have hpo2:=hpo.side side;have ho0:=bm.own (i:=1) s48 rfl;show wv (ag T G48 aw (.ptr i8 [2] 2)) _;refine ae (iI (i:=3) s48 rfl ho0.leaf).2.2.1 ?_;refine ae (cj eP (au.own (i:=0) s48 rfl) (ba.fits hpo2)) ?_;refine wm (T:=T) (ts:=aw) (e:=aT) (si:=b8) (ie:=dS) (i:=1) cy rfl eP rfl (by decide) s48 rfl (ba.sz hpo2) (ba.okv _) (by decide) ?_ fun s57 G58 s58=>?_
     ·have:dS.bytes=56:=rfl;have h2:=DL side l (x+1);rw[htt,List.length_append,List.length_singleton]at h2;rw[List.length_map,this,List.length_append];omega
     show wg (aF T G58 aw (.ptr i8 [2] 2) s57) _;refine GQ (i:=3) s58 rfl ho0.leaf.1 (bm.own (i:=1) s58 rfl).leaf fun G60 s60=>?_;rw[bg,aa,i64_in (by omega) (by omega)];refine ih (x+1) s57 G60 (by omega) (by omega) ?_;rw[htt,<- List.append_assoc,List.map_append];exact s60.erase 0
    ·have hne:p.ours=side:=(by simpa using h);rw[if_pos hne,List.append_nil]at htt;rw[bg,aa,i64_in (by omega) (by omega)];refine ih (x+1) s G45 (by omega) (by omega) ?_;rw[htt];exact s45.erase 0
  refine lp _ 0 s G' rfl (by omega) ?_;simpa[kW] using hs
 have at_:∀ {G':ak}{j:Nat}{b:Bool},Own 1 G' v11 [.bool true,.bool false]->[ah.bool true,.bool false][j]?=some (.bool b)->∃ a,aO T om v11 (.int .i64 (j:Nat))=some a/\ag T G' du a=some (.bool b):=fun h hj=>
  h.is.at_ (k:=.i64) (i:=oZ) (ie:=rT) (T:=T) (t:=om) (e:=du) xW rfl lL hj rfl
 refine hR14 _ _ _ _ _ _ _ ?_;rw[aM,aa,aI];refine⟨fun _=>?_,fun h=>absurd (by decide) h⟩;obtain⟨a,ha,hla⟩:=at_ (j:=0) (bm.own (i:=1) s12 rfl) rfl;refine ae ha ?_;rw[hla];refine inner true [] 0 G12 .nilSlice (by simpa using we true l) s12 fun G' s hs=>?_;refine hR14 _ _ _ _ _ _ _ ?_;rw[aM,aa,aI];refine⟨fun _=>?_,fun h=>absurd (by decide) h⟩;obtain⟨a,ha,hla⟩:=at_ (j:=1) (bm.own (i:=1) hs rfl) rfl;refine ae ha ?_;rw[hla];refine inner false ([]++kW true l) (IntKind.i64.wrap (0+1)) G' s (by have:=pI l;rw[pE,List.length_append]at this;simp;omega) hs fun G' s hs=>?_;refine hR14 _ _ _ _ _ _ _ ?_;rw[aM,aa,aI];refine⟨fun h=>absurd h (by decide),fun _=>?_⟩;have ho0:=bm.own (i:=0) hs rfl;refine ae (iI (i:=2) hs rfl ho0.leaf).2.2.2 ?_;refine nN (i:=3) hs rfl rfl ho0.leaf fun G65 s65=>?_;refine ae (iI (i:=3) s65 rfl ho0.leaf).2.2.2 ?_;exact hQ s _ ((((s65.erase 1).erase 1).erase 1).erase 1)
theorem gd.use {o q:Int}{v:ah}{l:List ba}(hl:ff 35 G v (l.map ba.av)) (hok:∀ p∈l,p.ok) (hlen:l.length*56≤140737488355328) (hQ:∀ s G',Sp [] G [bm 35 s ((pE l).map ba.av)] G'->Q (gH q o s) G') :
  al P gd.n [gH o q v] G Q:=by
 have hv:=tU hl;refine gd.sound ?_;unfold gd.S;rw[J5];intro i1 f1;have s1:=(Sp.nil G).row f1 (gH o q v);intro i3 f3;have s3:=s1.row f3 (gH 0 0 .nilSlice);refine ae (iI (i:=1) s3 rfl hv).2.1 ?_;refine ae (iI (i:=1) s3 rfl hv).1 ?_;refine ae (v:=gH q o .nilSlice) rfl ?_;intro i8 f8;have s8:=s3.row f8 (gH 0 0 .nilSlice);refine nN (i:=0) s8 rfl rfl rl fun G10 s10=>?_;have s10:Sp [] G [au i8 (gH q o .nilSlice),au i3 (gH 0 0 .nilSlice),au i1 (gH o q v)] G10:=s10;have s12:=s10.nz 35;have ln:∀ {G':ak},Ch [] G [] G'->fU T G' aw v=some (.int .i64 (l.length:Nat)):=fun c=>by
  rw[(hl.ch' c).len (i:=b8) cy rfl,List.length_map]
 intro R11 hR11;have inner:∀ (side:Bool) (k:Int) (acc:List ba) (G':ak) (s:ah),acc.length+(kW side l).length≤l.length->(∀ b:Bool,(b == decide (k=1))=(b != side)) ->
   Sp [] G [bm 35 s (acc.map ba.av),au i8 (gH q o s),au i3 (gH 0 0 .nilSlice),au i1 (gH o q v)] G' ->
   (∀ (G':ak) (s:ah),Sp [] G [bm 35 s ((acc++kW side l).map ba.av),au i8 (gH q o s),au i3 (gH 0 0 .nilSlice),au i1 (gH o q v)] G'->R11 [.ptr i1 [] 0,.ptr i3 [] 0,.ptr i8 [] 0,.int .i64 (IntKind.i64.wrap (k+1))] G') ->
   (∀ R18:List ah->ak->Prop,
 (∀ (x20 x21 x22 x23 x24:ah) (G19:ak),(wv (bt T aX x20 2) fun v25=>wv (ag T G19 aw v25) fun v26=>wv (fU T G19 aw v26) fun v27=>wv (az T .lss ay x24 v27) fun v28=>brB (some v28)
 (wv (bt T aX x20 2) fun v29=>wv (ag T G19 aw v29) fun v30=>wv (aO T aw v30 x24) fun v31=>wv (ag T G19 aT v31) fun v32=>br G19 (.own (jQ)) fun i33 G34=>wg (aF T G34 aT (.ptr i33 [] 0) v32) fun G35=>wv (ag T G35 du (.ptr i33 [0] 0)) fun v36=>wv (az T .eql ay x23 (.int .i64 1)) fun v37=>wv (az T .eql du v36 v37) fun v38=>brB (some v38)
 (wv (ag T G35 du (.ptr i33 [0] 0)) fun v39=>wv (vun .not v39) fun v40=>wg (aF T G35 du (.ptr i33 [0] 0) v40) fun G41=>wv (bt T aX x22 2) fun v42=>wv (ag T G41 aw v42) fun v43=>wv (ag T G41 aT (.ptr i33 [] 0)) fun v44=>bu T aw 1 [(0,v44)] G41 fun v45 G46=>cn T G46 aw aw v43 v45 fun v47 G48=>wv (bt T aX x22 2) fun v49=>wg (aF T G48 aw v49 v47) fun G50=>wv (az T .add ay x24 (.int .i64 1)) fun v54=>R18 [x20,x21,x22,x23,v54] G50)
 (wv (az T .add ay x24 (.int .i64 1)) fun v55=>R18 [x20,x21,x22,x23,v55] G35))
 (wv (az T .add ay x23 (.int .i64 1)) fun v56=>R11 [x20,x21,x22,v56] G19))->R18 [x20,x21,x22,x23,x24] G19) ->
 R18 [.ptr i1 [] 0,.ptr i3 [] 0,.ptr i8 [] 0,.int .i64 k,.int .i64 0] G'):=by
  intro side k acc G' s hacc hside hs hnext;intro R28 hR28;have lp:∀ (n x:Nat) (s:ah) (G':ak),l.length-x=n->x≤l.length->Sp [] G [bm 35 s ((acc++kW side (l.take x)).map ba.av),au i8 (gH q o s),au i3 (gH 0 0 .nilSlice),au i1 (gH o q v)] G' ->
    R28 [.ptr i1 [] 0,.ptr i3 [] 0,.ptr i8 [] 0,.int .i64 k,.int .i64 (x:Int)] G':=by
   intro n;induction n with
   | zero=>
    intro x s G' hn hx hs;have:x=l.length:=(by omega);subst this;rw[List.take_length]at hs;refine hR28 _ _ _ _ _ _ ?_;show wv (ag T G' aw (.ptr i1 [2] 2)) _;refine ae (iI (i:=3) hs rfl hv).2.2.1 ?_;refine ae (ln hs.ch) ?_;rw[aM,aa,aI];refine⟨fun h=>absurd h (by omega),fun _=>?_⟩;rw[bg,aa];exact hnext _ _ hs
   | succ n ih=>
    intro x s G' hn hx hs;obtain⟨p,hp⟩:∃ p,l[x]?=some p:=⟨_,List.getElem?_eq_getElem (by omega)⟩;have hpo:=hok p (List.mem_of_getElem? hp);obtain⟨a,ha,hla⟩:=vj (hl.ch' hs.ch) hp;have htt:=zD (b:=side) hp;refine hR28 _ _ _ _ _ _ ?_;show wv (ag T G' aw (.ptr i1 [2] 2)) _;refine ae (iI (i:=3) hs rfl hv).2.2.1 ?_;refine ae (ln hs.ch) ?_;rw[aM,aa,aI];refine⟨fun _=>?_,fun h=>absurd (by omega) h⟩;show wv (ag T G' aw (.ptr i1 [2] 2)) _;refine ae (iI (i:=3) hs rfl hv).2.2.1 ?_;rw[ha,aa,hla,aa];refine jL hs eP (ba.fits hpo) (by rw[ba.sz hpo];rfl) (ba.okv p) fun i43 G45 s45=>?_;refine ae (ba.fld hpo (au.own (i:=0) s45 rfl)).1 ?_;rw[bB,aa,wU lL rfl,aa,hside,gO];refine⟨fun h=>?_,fun h=>?_⟩
    ·have hne:p.ours≠side:=(by simpa using h);have hnot:(!p.ours)=side:=(by decide:∀ a b:Bool,a≠b->(!a)=b) _ _ hne;rw[if_neg hne]at htt;refine ae (ba.fld hpo (au.own (i:=0) s45 rfl)).1 ?_;rw[dx,aa,hnot];refine D9 (i:=0) s45 rfl side fun G48 s48=>?_;have hpo2:=hpo.side side;have ho0:=bm.own (i:=1) s48 rfl;show wv (ag T G48 aw (.ptr i8 [2] 2)) _;refine ae (iI (i:=2) s48 rfl ho0.leaf).2.2.1 ?_;refine ae (cj eP (au.own (i:=0) s48 rfl) (ba.fits hpo2)) ?_;refine wm (T:=T) (ts:=aw) (e:=aT) (si:=b8) (ie:=dS) (i:=1) cy rfl eP rfl (by decide) s48 rfl (ba.sz hpo2) (ba.okv _) (by decide) ?_ fun s57 G58 s58=>?_
     ·have:dS.bytes=56:=rfl;have h2:=DL side l (x+1);rw[htt,List.length_append,List.length_singleton]at h2;rw[List.length_map,this,List.length_append];omega
     show wg (aF T G58 aw (.ptr i8 [2] 2) s57) _;refine GQ (i:=2) s58 rfl ho0.leaf.1 (bm.own (i:=1) s58 rfl).leaf fun G60 s60=>?_;rw[bg,aa,i64_in (by omega) (by omega)];refine ih (x+1) s57 G60 (by omega) (by omega) ?_;rw[htt,<- List.append_assoc,List.map_append];exact s60.erase 0
    ·have hne:p.ours=side:=(by simpa using h);rw[if_pos hne,List.append_nil]at htt;rw[bg,aa,i64_in (by omega) (by omega)];refine ih (x+1) s G45 (by omega) (by omega) ?_;rw[htt];exact s45.erase 0
  refine lp _ 0 s G' rfl (by omega) ?_;simpa[kW] using hs
 refine hR11 _ _ _ _ _ ?_;rw[aM,aa,aI];refine⟨fun _=>?_,fun h=>absurd (by decide) h⟩;refine inner true 0 [] G10 .nilSlice (by simpa using we true l) (by decide) s12 fun G' s hs=>?_;refine hR11 _ _ _ _ _ ?_;rw[aM,aa,aI];refine⟨fun _=>?_,fun h=>absurd (by decide) h⟩;refine inner false (IntKind.i64.wrap (0+1)) ([]++kW true l) G' s (by have:=pI l;rw[pE,List.length_append]at this;simp;omega) (by decide) hs fun G' s hs=>?_;refine hR11 _ _ _ _ _ ?_;rw[aM,aa,aI];refine⟨fun h=>absurd h (by decide),fun _=>?_⟩;have ho0:=bm.own (i:=0) hs rfl;refine ae (iI (i:=1) hs rfl ho0.leaf).2.2.2 ?_;refine nN (i:=2) hs rfl rfl ho0.leaf fun G65 s65=>?_;refine ae (iI (i:=2) s65 rfl ho0.leaf).2.2.2 ?_;exact hQ s _ (((s65.erase 1).erase 1).erase 1)
end
end Go.Esc.M
namespace Go.Esc.M
open Go Go.Esc
def z32:List UInt8:=List.replicate 32 0
def p1:ba:=⟨true,3,9,z32⟩
def h7:List UInt8:=7::List.replicate 31 0
def c1:Com:=⟨1,5,h7,10,20,[p1]⟩
theorem idx {l:List UInt8}{j:Nat}{b:UInt8}(h:l[j]?=some b):pz T bH (.str l) (.int .i64 (j:Nat))=some (.int .u8 (b.toNat:Nat)):=by
 obtain⟨hj,rfl⟩:=List.getElem?_eq_some_iff.1 h;exact E5 hj
theorem Co {o q:Int}{v:ah}(hv:sz v=1):bj T aX [(0,.int .i64 o),(1,.int .i64 q),(2,v)]=some (gH o q v):=by
 have hf:∀ pl:Nat->Option (Nat×Nat),pl 0=some (0,1)->pl 1=some (1,1)->pl 2=some (2,1)->nx pl [.int .i64 0,.int .i64 0,.nilSlice] [(0,.int .i64 o),(1,.int .i64 q),(2,v)]=some [.int .i64 o,.int .i64 q,v]:=by
  intro pl e0 e1 e2;simp[nx,e0,e1,e2,sz,szs,hv]
 have ha:[(aq,0),(aq,1),(aw,2)].all (fun g=>(T g.1).isSome)=true:=rfl;have hf:=hf (places T [(aq,0),(aq,1),(aw,2)]) rfl rfl rfl;unfold bj;have e1:lN.desc=.struct [(aq,0),(aq,1),(aw,2)]:=rfl;have e2:lN.zero=.agg [.int .i64 0,.int .i64 0,.nilSlice]:=rfl;simp only[ng,e1,e2,ha,if_true,hf];rfl
section
variable {F0:List AId}{G0 G:ak}{ps:List LP}{Q:ah->ak->Prop}
end
end Go.Esc.M
