import Derived.Test.YtkojimdacnohpaaGreatDoorLWc
import Derived.Test.YtkojimdacnohpaaGreatDoorLDb
import Derived.Test.YtkojimdacnohpaaGreatDoorLDk
import Derived.Test.YtkojimdacnohpaaGreatDoorLFw
import Derived.Test.YtkojimdacnohpaaGreatDoorLSd
import Derived.Test.YtkojimdacnohpaaGreatDoorLVf
import Derived.Test.YtkojimdacnohpaaGreatDoorLUd
import Derived.Test.YtkojimdacnohpaaGreatDoorLMq
set_option maxHeartbeats 16000000
set_option linter.unusedSimpArgs false
set_option linter.unusedVariables false
set_option maxRecDepth 20000
namespace Go.Esc.M
open Go Go.Esc
section
variable {F0:List AId}{G0 G:ak}{ps:List LP}{Q:ah->ak->Prop}
theorem fL.use {f:StF}{vo vp vh:ah}(hS:ka G f vo vp vh) (hQ:∀ wo wp wh G',Sp [] G [bm 34 wh (f.h.map b6.av),bm 36 wp ((cw f.p f.s.atB).map aL.av),bm 36 wo (f.o.map aL.av)] G'->Q (f.s.av wo wp wh) G'):al P fL.n [f.s.av vo vp vh] G Q:=by
 have ho:=hS.ok
 have hl:=hS.lv
 have hlp:=hS.lp
 have hlo:=hS.lo
 have hlh:=hS.lh
 refine fL.sound ?_
 unfold fL.S
 rw[EV]
 intro i1 f1
 have s1:=(Sp.nil G).row f1 (f.s.av vo vp vh)
 intro i3 f3
 have s3:=s1.row f3 (StM.zero.av .nilSlice .nilSlice .nilSlice)
 revert s3
 generalize ak.upd _ i3 _=G4
 intro s3
 have grow:∀ {ps:List LP}{G1:ak}{x:ah}{l:List aL}{K:ah->ak->Prop},Sp [] G ps G1->ff 36 G1 x (l.map aL.av)->(∀ u∈l,u.ok)->l.length≤1048576->(∀ w G2,Sp [] G (bm 36 w (l.map aL.av)::ps) G2->K w G2)->cn T G1 aj aj .nilSlice x K:=by
  intro ps G1 x l K s hx hok hlen hK
  refine uN (T:=T) (ts:=aj) (e:=aG) (si:=dL) (ie:=cG) (tx:=aj) (xi:=dL) (i:=0) (vs:=[]) (xs:=l.map aL.av) bT rfl dE rfl (by decide) bT (.inr ⟨_,rfl⟩) (s.nz 36) rfl hx.elems (nW hok).1 (nW hok).2 (by rw[show cG.bytes=72 from rfl,List.length_map];simp;omega) fun w G5 s5=>?_
  exact hK w G5 s5
 refine ae (St.dM (au.own (i:=1) s3 rfl) ho hl) ?_
 refine grow s3 (hS.o.gZ.ch' s3.ch) hS.oko hS.lo fun wo G7 s7=>?_
 have lo:bw wo:=(bm.own (i:=0) s7 rfl).leaf
 refine St.tT (i:=2) s7 rfl ho hl lo fun G8 s8=>?_
 have l8:bw wo/\bw vp/\bw vh:=⟨lo,hl.2.1,hl.2.2⟩
 refine ae (St.eH (au.own (i:=2) s8 rfl) ho l8) ?_
 refine ae (St.od (au.own (i:=2) s8 rfl) ho l8) ?_
 refine bQ.use (hS.p.mv s8.ch) hS.lp fun w hw=>?_
 have hfl:=jU f.p f.s.atB
 refine grow s8 hw.gZ (mu hS.okp) (by omega) fun wp G14 s14=>?_
 have lp:bw wp:=(bm.own (i:=0) s14 rfl).leaf
 refine St.tg (i:=3) s14 rfl ho l8 lp fun G15 s15=>?_
 have l15:bw wo/\bw wp/\bw vh:=⟨lo,lp,hl.2.2⟩
 refine ae (St.l6 (au.own (i:=3) s15 rfl) ho l15) ?_
 refine uN (T:=T) (ts:=aV) (e:=cz) (si:=jr) (ie:=kv) (tx:=aV) (xi:=jr) (i:=0) (vs:=[]) (xs:=f.h.map b6.av) gz rfl jN rfl (by decide) gz (.inr ⟨_,rfl⟩) (s15.nz 34) rfl (hS.h.gZ.ch' s15.ch).elems (wV hS.okh) (sa f.h) (by rw[show kv.bytes=48 from rfl,List.length_map];simp;omega) fun wh G18 s18=>?_
 have lh:bw wh:=(bm.own (i:=0) s18 rfl).leaf
 refine St.vO (i:=4) s18 rfl ho l15 lh fun G19 s19=>?_
 refine ae (St.ld (au.own (i:=4) s19 rfl) ho ⟨lo,lp,lh⟩) ?_
 refine St.st (i:=3) s19 rfl StM.bq lv0 ho ⟨lo,lp,lh⟩ fun G21 s21=>?_
 refine ae (St.ld (au.own (i:=3) s21 rfl) ho ⟨lo,lp,lh⟩) ?_
 exact hQ wo wp wh G21 ((s21.erase 3).erase 3)
end
end Go.Esc.M
namespace Go.Esc.M
open Go Go.Esc
section
variable {F0:List AId}{G0 G:ak}{ps:List LP}{Q:ah->ak->Prop}
end
end Go.Esc.M
namespace Go.Esc
open Go Go.RowKit
theorem Sps.front {G:ak}:∀ {ps:List LP}{Fs:List (List AId)},Sps ps Fs G->∀ {i:Nat}{p:LP},ps[i]?=some p->∃ F,Sps (p::ps.eraseIdx i) (F::Fs.eraseIdx i) G/\∀ j∈(F::Fs.eraseIdx i).flatten,j∈Fs.flatten
 | [],_,_,_,_,hi=>by simp at hi
 | _::_,[],h,_,_,_=>h.elim
 | q::ps,E::Fs,h,0,p,hi=>by
  simp at hi
  subst hi
  exact⟨E,h,fun j hj=>hj⟩
 | q::ps,E::Fs,h,i+1,p,hi=>by
  obtain⟨h1,h2,h3⟩:=h
  obtain⟨F,⟨k1,k2,k3⟩,k4⟩:=Sps.front h3 (i:=i) (p:=p) (by simpa using hi)
  have hF:∀ j∈F,j∈Fs.flatten:=fun j hj=>k4 j (by simp[hj])
  refine⟨F,⟨k1,fun j hj hm=>?_,h1,fun j hj hm=>h2 j hj (k4 j ?_),k3⟩,fun j hj=>?_⟩
  ·have hm:j∈E\/j∈(Fs.eraseIdx i).flatten:=by simpa using hm
   rcases hm with hm|hm
   ·exact h2 j hm (hF j hj)
   ·exact k2 j hj hm
  ·simp only[List.flatten_cons,List.mem_append];exact .inr hm
  ·have hj:j∈F\/j∈E\/j∈(Fs.eraseIdx i).flatten:=by simpa using hj
   simp only[List.flatten_cons,List.mem_append]
   rcases hj with hj|hj|hj
   ·exact .inr (hF j hj)
   ·exact .inl hj
   ·exact .inr (k4 j (by simp only[List.flatten_cons,List.mem_append];exact .inr hj))
section
variable {F0:List AId}{G0 G:ak}{ps:List LP}
theorem Sp.front {p:LP}{i:Nat}(h:Sp F0 G0 ps G) (hi:ps[i]?=some p):Sp F0 G0 (p::ps.eraseIdx i) G:=by
 obtain⟨Fs,h1,h2⟩:=h
 obtain⟨F,k1,k2⟩:=h1.front hi
 exact⟨_,k1,h2.ro,h2.others,fun j hj=>h2.row j (k2 j hj)⟩
theorem Sps.take:∀ {ps:List LP}{Fs:List (List AId)},Sps ps Fs G->∀ n:Nat,Sps (ps.take n) (Fs.take n) G
 | [],[],_,n=>by simp[Sps]
 | [],_::_,h,_=>h.elim
 | _::_,[],h,_=>h.elim
 | p::ps,F::Fs,h,0=>by simp[Sps]
 | p::ps,F::Fs,h,n+1=>⟨h.1,fun j hj hm=>h.2.1 j hj (by
   simp only[List.mem_flatten]at hm ⊢
   obtain⟨l,hl,hj⟩:=hm
   exact⟨l,List.mem_of_mem_take hl,hj⟩),Sps.take h.2.2 n⟩
theorem Sp.take (h:Sp F0 G0 ps G) (n:Nat):Sp F0 G0 (ps.take n) G:=by
 obtain⟨Fs,h1,h2⟩:=h
 refine⟨_,h1.take n,h2.ro,h2.others,fun j hj=>h2.row j ?_⟩
 simp only[List.mem_flatten]at hj ⊢
 obtain⟨l,hl,hj⟩:=hj
 exact⟨l,List.mem_of_mem_take hl,hj⟩
end
end Go.Esc
namespace Go.Esc.M
open Go Go.Esc
def q6 (f:StF) (u:aL):StF:=⟨f.s,f.o++[u],f.p,f.h⟩
def yG (f:StF) (r:RcM):StF:=⟨{ f.s with rem:=r.index,sgnA:=r.cntA,sgnB:=r.cntB,behind:=true },f.o,f.p,f.h⟩
def xS (f:StF) (r:RcM) (l:List aL):StF:=⟨{ f.s with loc:=r.index,atA:=f.s.heldA,atB:=((cw f.p f.s.atB++l).length:Nat),sig:=r.sig,behind:=false },f.o,cw f.p f.s.atB++l,f.h⟩
def uQ (f:StF) (r:RcM):StF:=⟨{ f.s with ack:=f.s.ack+1,heldA:=f.s.sgnA,heldB:=f.s.sgnB,ptsA:=f.s.ptsB,ptsB:=r.point },f.o,f.p,(tw f.h r.index r.secret).1⟩
def Bb (f:StF) (r:RcM) (l:List aL) (f':StF):Prop:=
 (r.kind=1/\kJ f.o f.p r.upd=0/\f'=q6 f r.upd) ∨
 (r.kind=2/\f.s.rem=f.s.ack/\r.index=f.s.rem+1/\r.cntB=f.s.atB/\f.s.sgnA≤r.cntA/\r.cntA≤(f.o.length:Nat)/\f'=yG f r) ∨
 (r.kind=3/\(∀ (j:Nat) (u:aL),l[j]?=some u->kJ (cw f.p f.s.atB++l.take j) f.o u=0)/\r.index=f.s.loc+1/\f'=xS f r l) ∨
 (r.kind=4/\(tw f.h r.index r.secret).2=0/\f.s.rem=f.s.ack+1/\r.index=f.s.ack/\f'=uQ f r)
section
variable {F0:List AId}{G0 G:ak}{ps:List LP}{Q:ah->ak->Prop}
theorem Jz {x:ah}{l:List aL}{K:ah->ak->Prop}(s:Sp F0 G0 ps G) (hx:ff 36 G x (l.map aL.av)) (hok:∀ u∈l,u.ok) (hlen:l.length≤1048576) (hK:∀ w G2,Sp F0 G0 (bm 36 w (l.map aL.av)::ps) G2->K w G2):cn T G aj aj .nilSlice x K:=by
 refine uN (T:=T) (ts:=aj) (e:=aG) (si:=dL) (ie:=cG) (tx:=aj) (xi:=dL) (i:=0) (vs:=[]) (xs:=l.map aL.av) bT rfl dE rfl (by decide) bT (.inr ⟨_,rfl⟩) (s.nz 36) rfl hx.elems (nW hok).1 (nW hok).2 (by rw[show cG.bytes=72 from rfl,List.length_map];simp;omega) fun w G5 s5=>?_
 exact hK w G5 s5
theorem Jy {v:ah}{l:List aL}{i:Nat}{u:aL}{K:ah->ak->Prop}(hs:Sp F0 G0 ps G) (hi:ps[i]?=some (bm 36 v (l.map aL.av))) (hu:u.ok) (hl:l.length≤1100000000) (hK:∀ w G',Sp F0 G0 (ps.set i (bm 36 w ((l++[u]).map aL.av))) G'->K w G') :
  bu T aj 1 [(0,u.av)] G fun v2 G'=>cn T G' aj aj v v2 K:=
 wm (T:=T) (ts:=aj) (e:=aG) (si:=dL) (ie:=cG) (i:=i) (vs:=l.map aL.av) bT rfl dE rfl (by decide) hs hi (aL.sz hu) (aL.okv _) (by decide) (by rw[List.length_map];simp only[cG];omega) fun w G' s=>hK w G' (by rw[List.map_append];exact s)
theorem ee.use {v w x:ah}{own other l:List aL}(hv:ff 36 G v (own.map aL.av)) (hw:ff 36 G w (other.map aL.av)) (hx:ff 36 G x (l.map aL.av)) (ok1:∀ u∈own,u.ok) (ok2:∀ u∈other,u.ok) (ok3:∀ u∈l,u.ok)
  (hlen:own.length+l.length≤1048576) (hlen2:other.length≤1048576) (h:∀ (j:Nat) (u:aL),l[j]?=some u->kJ (own++l.take j) other u=0)
  (hQ:∀ z G',Sp [] G [bm 36 z ((own++l).map aL.av)] G'->Q (.tuple [z,.bool true]) G'):al P ee.n [v,w,x] G Q:=by
 refine ee.sound ?_
 unfold ee.S
 refine Jz (Sp.nil G) hv ok1 (by omega) fun z G2 s2=>?_
 intro R hR
 have loop:∀ (n j:Nat) (z:ah) (G':ak),l.length-j=n->j≤l.length->Sp [] G [bm 36 z ((own++l.take j).map aL.av)] G'->R [w,x,z,.int .i64 (j:Int)] G':=by
  intro n
  induction n with
  | zero=>
   intro j z G' hn hj s
   have:j=l.length:=by omega
   subst this
   rw[List.take_length]at s
   refine hR _ _ _ _ _ ?_
   refine ae (dh (hx.ch' s.ch)) ?_
   rw[aM,aa,aI]
   exact⟨fun h=>absurd h (by omega),fun _=>hQ z G' s⟩
  | succ n ih=>
   intro j z G' hn hj s
   obtain⟨u,hu⟩:∃ u,l[j]?=some u:=⟨_,List.getElem?_eq_getElem (by omega)⟩
   have huo:=ok3 u (List.mem_of_getElem? hu)
   have hlt:(own++l.take j).length≤1048576:=by rw[List.length_append,List.length_take];omega
   have okj:∀ y∈own++l.take j,y.ok:=by
    intro y hy
    rcases List.mem_append.1 hy with hy|hy
    ·exact ok1 y hy
    ·exact ok3 y (List.mem_of_mem_take hy)
   refine hR _ _ _ _ _ ?_
   refine ae (dh (hx.ch' s.ch)) ?_
   rw[aM,aa,aI]
   refine⟨fun _=>?_,fun h=>absurd (by omega) h⟩
   obtain⟨a,a1,a2⟩:=nD (hx.ch' s.ch) hu
   refine ae a1 ?_
   refine ae a2 ?_
   refine fa.use (bm.own (i:=0) s rfl).is (hw.ch' s.ch) okj ok2 (by omega) (by omega) huo fun G14 c14=>?_
   have s14:=s.tmp c14
   rw[h j u hu]
   refine ae nz0 ?_
   rw[aK]
   obtain⟨a,a1,a2⟩:=nD (hx.ch' s14.ch) hu
   refine ae a1 ?_
   refine ae a2 ?_
   refine Jy (i:=0) s14 rfl huo (by omega) fun z' G21 s21=>?_
   rw[bg,i64_in (by omega) (by omega),aa]
   refine ih (j+1) z' G21 (by omega) (by omega) ?_
   rw[List.take_add_one,hu,<- List.append_assoc]
   exact s21
 exact loop l.length 0 z G2 (by omega) (by omega) (by simpa using s2)
theorem dX.use {f f':StF}{r:RcM}{l:List aL}{v vo vp vh:ah}(hS:ka G f vo vp vh) (hr:r.ok) (hv:bw v) (hl:ff 36 G v (l.map aL.av)) (okl:∀ u∈l,u.ok) (hll:l.length≤4096) (hlo:f.o.length≤4096) (hlp:f.p.length≤4096) (hlh:f.h.length≤49) (h:Bb f r l f')
  (hQ:∀ wo wp wh G',Sp [] G [bm 34 wh (f'.h.map b6.av),bm 36 wp (f'.p.map aL.av),bm 36 wo (f'.o.map aL.av)] G'->Q (.tuple [f'.s.av wo wp wh,.bool true]) G'):al P dX.n [f.s.av vo vp vh,r.av v] G Q:=by
 have ho:=hS.ok
 have lS:=hS.lv
 refine dX.sound ?_
 unfold dX.S
 rw[EV]
 intro i1 f1
 have s1:=(Sp.nil G).row f1 (f.s.av vo vp vh)
 intro i3 f3
 have s3:=s1.row f3 (r.av v)
 intro i5 f5
 have s5:=s3.row f5 (StM.zero.av .nilSlice .nilSlice .nilSlice)
 revert s5
 generalize ak.upd _ i5 _=G6
 intro s5
 rw[<- EV]
 refine ae (St.ld (au.own (i:=2) s5 rfl) ho lS) ?_
 refine fL.use (hS.mv s5.ch) fun wo0 wp0 wh G9 t9=>?_
 have s9:Sp [] G [bm 34 wh (f.h.map b6.av),bm 36 wp0 ((cw f.p f.s.atB).map aL.av),bm 36 wo0 (f.o.map aL.av),au i5 (StM.zero.av .nilSlice .nilSlice .nilSlice),au i3 (r.av v),au i1 (f.s.av vo vp vh)] G9:=by
  obtain⟨Fs,h1,h2⟩:=s5
  obtain⟨Gs,t1,t2⟩:=t9
  have key:∀ {G':ak}{qs ps:List LP}{Gs Fs:List (List AId)},Sps ps Fs G'->Sps qs Gs G'->(∀ j∈Gs.flatten,j ∉ Fs.flatten)->Sps (qs++ps) (Gs++Fs) G':=by
   intro G' qs
   induction qs with
   | nil=>
    intro ps Gs Fs h t _
    cases Gs with
    | nil=>exact h
    | cons _ _=>exact t.elim
   | cons q qs ih=>
    intro ps Gs Fs h t hd
    cases Gs with
    | nil=>exact t.elim
    | cons E Gs=>
     obtain⟨t1,t2,t3⟩:=t
     refine⟨t1,fun j hj hm=>?_,ih h t3 fun j hj=>hd j (by simp only[List.flatten_cons,List.mem_append];exact .inr hj)⟩
     have hm:j∈(Gs++Fs).flatten:=hm
     rw[List.flatten_append,List.mem_append]at hm
     rcases hm with hm|hm
     ·exact t2 j hj hm
     ·exact hd j (by simp only[List.flatten_cons,List.mem_append];exact .inl hj) hm
  refine⟨Gs++Fs,key (qs:=[bm 34 wh (f.h.map b6.av),bm 36 wp0 ((cw f.p f.s.atB).map aL.av),bm 36 wo0 (f.o.map aL.av)]) (h1.same fun j hj=>t2.same (E:=Fs.flatten) h1.rows (by simp) j hj) t1 fun j hj hm=>?_,h2.trans ?_⟩
  ·rcases t2.row j hj with h'|h'
   ·simp at h'
   ·have:=h1.rows j hm
    rw[h']at this;cases this
  ·have:=t2.more (E:=Fs.flatten)
   simpa using this
 have l0:bw wo0/\bw wp0/\bw wh:=⟨(bm.own (i:=2) s9 rfl).leaf,(bm.own (i:=1) s9 rfl).leaf,(bm.own (i:=0) s9 rfl).leaf⟩
 refine St.nw s9 ho l0 fun i10 G12 s12=>?_
 refine ae (St.eH (au.own (i:=6) s12 rfl) ho lS) ?_
 refine Jz s12 (hS.p.gZ.ch' s12.ch) hS.okp hS.lp fun wp G15 s15=>?_
 have lp:=(bm.own (i:=0) s15 rfl).leaf
 refine St.tg (i:=1) s15 rfl ho l0 lp fun G16 s16=>?_
 have l1:bw wo0/\bw wp/\bw wh:=⟨l0.1,lp,l0.2.2⟩
 have s16:Sp [] G [bm 36 wp (f.p.map aL.av),au i10 (f.s.av wo0 wp wh),bm 34 wh (f.h.map b6.av),bm 36 wp0 ((cw f.p f.s.atB).map aL.av),bm 36 wo0 (f.o.map aL.av),au i5 (StM.zero.av .nilSlice .nilSlice .nilSlice),au i3 (r.av v),au i1 (f.s.av vo vp vh)] G16:=s16
 have hg:=au.own (i:=7) s16 rfl
 have hr3:=au.own (i:=6) s16 rfl
 refine ae (Rc.sj hr3 hr hv) ?_
 rw[bB,aa,aI]
 have nk:∀ {a b:Int}{t:TypeId},a=b->az T .eql t (.int .i64 a) (.int .i64 b)=some (.bool true):=fun h=>by rw[h];exact ez0
 refine⟨fun hk=>?_,fun hk1=>?_⟩
 ·obtain⟨_,hn,rfl⟩:r.kind=1/\kJ f.o f.p r.upd=0/\f'=q6 f r.upd:=by
   rcases h with h|⟨h,_⟩|⟨h,_⟩|⟨h,_⟩
   ·exact h
   all_goals omega
  refine ae (St.dM hg ho lS) ?_
  refine ae (St.eH hg ho lS) ?_
  refine ae (Rc.Al hr3 hr hv) ?_
  refine Df (T:=T) (ts:=aj) (e:=aG) (si:=dL) (ie:=cG) bT rfl dE rfl s16 (aL.sz hr.upd) (by decide) fun v22 G23 s23=>?_
  have o1:∀ u∈[r.upd],u.ok:=fun u hu=>by rw[List.mem_singleton.1 hu];exact hr.upd
  refine ee.use (l:=[r.upd]) (hS.o.gZ.ch' s23.ch) (hS.p.gZ.ch' s23.ch) (bm.own (i:=0) s23 rfl).is hS.oko hS.okp o1 (by simp;omega) hS.lp (fun j u hj=>?_) fun z G25 t25=>?_
  ·cases j with
   | zero=>
    simp at hj
    subst hj
    simpa using hn
   | succ j=>simp at hj
  obtain⟨F25,o25,c25⟩:=t25.out
  have s25:=s23.new o25 c25
  have lz:=(bm.own (i:=0) s25 rfl).leaf
  refine ae (tv0 _ _) ?_
  refine ae (tv1 _ _) ?_
  refine St.tT (i:=3) s25 rfl ho l1 lz fun G28 s28=>?_
  have l2:bw z/\bw wp/\bw wh:=⟨lz,l1.2⟩
  refine ae (St.ld (au.own (i:=3) s28 rfl) ho l2) ?_
  refine St.st (i:=7) s28 rfl StM.bq lv0 ho l2 fun G30 s30=>?_
  refine ae (St.ld (au.own (i:=7) s30 rfl) ho l2) ?_
  exact hQ z wp wh G30 ((((s30.front (i:=0) rfl).front (i:=2) rfl).front (i:=4) rfl).take 3)
 ·rw[bB,aa,aI]
  refine⟨fun hk=>?_,fun hk2=>?_⟩
  ·obtain⟨_,h1,h2,h3,h4,h5,rfl⟩:r.kind=2/\f.s.rem=f.s.ack/\r.index=f.s.rem+1/\r.cntB=f.s.atB/\f.s.sgnA≤r.cntA/\r.cntA≤(f.o.length:Nat)/\f'=yG f r:=by
    rcases h with ⟨h,_⟩|h|⟨h,_⟩|⟨h,_⟩
    ·omega
    ·exact h
    all_goals omega
   have hri:=hr.index
   refine ae (Rc.ni hr3 hr hv) ?_
   refine St.Lw (i:=1) s16 rfl ho l1 _ fun G34 s34=>?_
   have o34:({ f.s with rem:=r.index }:StM).ok:=⟨ho.side,ho.cap,ho.bo,ho.bp,ho.loc,hr.index,ho.ack,ho.atA,ho.atB,ho.sgnA,ho.sgnB,ho.heldA,ho.heldB,ho.ptsA,ho.ptsB,ho.sig,ho.failed,ho.closed⟩
   refine ae (Rc.FE (au.own (i:=6) s34 rfl) hr hv) ?_
   refine St.Lv (s:={ f.s with rem:=r.index }) (i:=1) s34 rfl o34 l1 _ _ fun G36 s36=>?_
   have o36:({ f.s with rem:=r.index,sgnA:=r.cntA,sgnB:=r.cntB }:StM).ok:=⟨ho.side,ho.cap,ho.bo,ho.bp,ho.loc,hr.index,ho.ack,ho.atA,ho.atB,hr.cntA,hr.cntB,ho.heldA,ho.heldB,ho.ptsA,ho.ptsB,ho.sig,ho.failed,ho.closed⟩
   refine St.BE (s:={ f.s with rem:=r.index,sgnA:=r.cntA,sgnB:=r.cntB }) (i:=1) s36 rfl o36 l1 _ fun G37 s37=>?_
   have o37:(yG f r).s.ok:=⟨ho.side,ho.cap,ho.bo,ho.bp,ho.loc,hr.index,ho.ack,ho.atA,ho.atB,hr.cntA,hr.cntB,ho.heldA,ho.heldB,ho.ptsA,ho.ptsB,ho.sig,ho.failed,ho.closed⟩
   have s37:Sp [] G [bm 36 wp (f.p.map aL.av),au i10 ((yG f r).s.av wo0 wp wh),bm 34 wh (f.h.map b6.av),bm 36 wp0 ((cw f.p f.s.atB).map aL.av),bm 36 wo0 (f.o.map aL.av),au i5 (StM.zero.av .nilSlice .nilSlice .nilSlice),au i3 (r.av v),au i1 (f.s.av vo vp vh)] G37:=s37
   have hg:=au.own (i:=7) s37 rfl
   have hr3:=au.own (i:=6) s37 rfl
   intro J64
   refine ae (St.ld (au.own (i:=1) s37 rfl) o37 l1) ?_
   refine ae (St.mn hg ho lS) ?_
   refine ae (St.mS hg ho lS) ?_
   refine ae (nk h1) ?_
   rw[aN]
   refine ae (Rc.ni hr3 hr hv) ?_
   refine ae (St.mn hg ho lS) ?_
   rw[bg,i64_in (by have:=hri.1;omega) (by have:=hri.2;omega),aa]
   refine ae (nk h2) ?_
   rw[aN]
   refine ae (Rc.KC hr3 hr hv) ?_
   refine ae (St.od hg ho lS) ?_
   refine ae (nk h3) ?_
   rw[aN]
   refine ae (Rc.C5 hr3 hr hv) ?_
   refine ae (St.KB hg ho lS) ?_
   rw[fI,aa,dT_ h4,aN]
   refine ae (Rc.C5 hr3 hr hv) ?_
   refine ae (St.dM hg ho lS) ?_
   refine ae (dh (hS.o.gZ.ch' s37.ch)) ?_
   rw[kQ,aa,dT_ h5]
   refine St.st (i:=5) s37 rfl StM.bq lv0 o37 l1 fun G56 s56=>?_
   refine⟨⟨St.dM (au.own (i:=7) s56 rfl) ho lS,Rc.C5 (au.own (i:=6) s56 rfl) hr hv,trivial⟩,?_⟩
   simp -zeta only [J64]
   refine ae (St.ld (au.own (i:=5) s56 rfl) o37 l1) ?_
   exact hQ wo0 wp wh G56 ((((s56.front (i:=4) rfl).front (i:=1) rfl).front (i:=3) rfl).take 3)
  ·rw[bB,aa,aI]
   refine⟨fun hk=>?_,fun hk3=>?_⟩
   ·obtain⟨_,h1,h2,rfl⟩:r.kind=3/\(∀ (j:Nat) (u:aL),l[j]?=some u->kJ (cw f.p f.s.atB++l.take j) f.o u=0)/\r.index=f.s.loc+1/\f'=xS f r l:=by
     rcases h with ⟨h,_⟩|⟨h,_⟩|h|⟨h,_⟩
     ·omega
     ·omega
     ·exact h
     ·omega
    have hri:=hr.index
    have hfl:=jU f.p f.s.atB
    refine ae (St.eH hg ho lS) ?_
    refine ae (St.od hg ho lS) ?_
    refine ae (St.dM hg ho lS) ?_
    refine ae (Rc.za hr3 hr hv) ?_
    refine bQ.use (hS.p.mv s16.ch) hS.lp fun w hw=>?_
    refine⟨⟨Rc.za hr3 hr hv,St.dM hg ho lS,trivial⟩,?_⟩
    refine ee.use hw.gZ (hS.o.gZ.ch' s16.ch) (hl.ch' s16.ch) (mu hS.okp) hS.oko okl (by omega) hS.lo h1 fun z G73 t73=>?_
    obtain⟨F73,o73,c73⟩:=t73.out
    have s73:=s16.new o73 c73
    have lz:=(bm.own (i:=0) s73 rfl).leaf
    refine ae (tv0 _ _) ?_
    refine ae (tv1 _ _) ?_
    refine St.tg (i:=2) s73 rfl ho l1 lz fun G76 s76=>?_
    have l2:bw wo0/\bw z/\bw wh:=⟨l1.1,lz,l1.2.2⟩
    refine ae (Rc.ni (au.own (i:=7) s76 rfl) hr hv) ?_
    refine St.Lx (i:=2) s76 rfl ho l2 _ fun G78 s78=>?_
    have o78:({ f.s with loc:=r.index }:StM).ok:=⟨ho.side,ho.cap,ho.bo,ho.bp,hr.index,ho.rem,ho.ack,ho.atA,ho.atB,ho.sgnA,ho.sgnB,ho.heldA,ho.heldB,ho.ptsA,ho.ptsB,ho.sig,ho.failed,ho.closed⟩
    refine ae (St.qc (au.own (i:=8) s78 rfl) ho lS) ?_
    refine ae (dh (bm.own (i:=0) s78 rfl).is) ?_
    refine ae (v:=bE f.s.heldA ((cw f.p f.s.atB++l).length:Nat)) rfl ?_
    refine St.Mf (s:={ f.s with loc:=r.index }) (i:=2) s78 rfl o78 l2 _ _ fun G82 s82=>?_
    have ib:I64 ((cw f.p f.s.atB++l).length:Nat):=iu _ (by omega) (by rw[List.length_append];omega)
    have o82:({ f.s with loc:=r.index,atA:=f.s.heldA,atB:=((cw f.p f.s.atB++l).length:Nat) }:StM).ok:=⟨ho.side,ho.cap,ho.bo,ho.bp,hr.index,ho.rem,ho.ack,ho.heldA,ib,ho.sgnA,ho.sgnB,ho.heldA,ho.heldB,ho.ptsA,ho.ptsB,ho.sig,ho.failed,ho.closed⟩
    refine ae (Rc.xB (au.own (i:=7) s82 rfl) hr hv) ?_
    refine St.IQ (s:={ f.s with loc:=r.index,atA:=f.s.heldA,atB:=((cw f.p f.s.atB++l).length:Nat) }) (i:=2) s82 rfl o82 l2 hr.sig fun G84 s84=>?_
    have o84:({ f.s with loc:=r.index,atA:=f.s.heldA,atB:=((cw f.p f.s.atB++l).length:Nat),sig:=r.sig }:StM).ok:=⟨ho.side,ho.cap,ho.bo,ho.bp,hr.index,ho.rem,ho.ack,ho.heldA,ib,ho.sgnA,ho.sgnB,ho.heldA,ho.heldB,ho.ptsA,ho.ptsB,hr.sig,ho.failed,ho.closed⟩
    refine St.BE (s:={ f.s with loc:=r.index,atA:=f.s.heldA,atB:=((cw f.p f.s.atB++l).length:Nat),sig:=r.sig }) (i:=2) s84 rfl o84 l2 _ fun G85 s85=>?_
    have o85:(xS f r l).s.ok:=⟨ho.side,ho.cap,ho.bo,ho.bp,hr.index,ho.rem,ho.ack,ho.heldA,ib,ho.sgnA,ho.sgnB,ho.heldA,ho.heldB,ho.ptsA,ho.ptsB,hr.sig,ho.failed,ho.closed⟩
    have s85:Sp [] G [bm 36 z ((cw f.p f.s.atB++l).map aL.av),bm 36 wp (f.p.map aL.av),au i10 ((xS f r l).s.av wo0 z wh),bm 34 wh (f.h.map b6.av),bm 36 wp0 ((cw f.p f.s.atB).map aL.av),bm 36 wo0 (f.o.map aL.av),au i5 (StM.zero.av .nilSlice .nilSlice .nilSlice),au i3 (r.av v),au i1 (f.s.av vo vp vh)] G85:=s85
    refine ae (St.ld (au.own (i:=2) s85 rfl) o85 l2) ?_
    rw[aN]
    refine ae (Rc.ni (au.own (i:=7) s85 rfl) hr hv) ?_
    refine ae (St.qb (au.own (i:=8) s85 rfl) ho lS) ?_
    rw[bg,i64_in (by have:=hri.1;omega) (by have:=hri.2;omega),aa]
    refine ae (nk h2) ?_
    refine St.st (i:=6) s85 rfl StM.bq lv0 o85 l2 fun G91 s91=>?_
    refine⟨⟨St.qb (au.own (i:=8) s91 rfl) ho lS,Rc.ni (au.own (i:=7) s91 rfl) hr hv,trivial⟩,?_⟩
    refine ae (St.ld (au.own (i:=6) s91 rfl) o85 l2) ?_
    exact hQ wo0 z wh G91 ((((s91.front (i:=5) rfl).front (i:=1) rfl).front (i:=4) rfl).take 3)
   ·rw[bB,aa,aI]
    refine⟨fun hk=>?_,fun hk4=>?_⟩
    ·obtain⟨_,h1,h2,h3,rfl⟩:r.kind=4/\(tw f.h r.index r.secret).2=0/\f.s.rem=f.s.ack+1/\r.index=f.s.ack/\f'=uQ f r:=by
      rcases h with ⟨h,_⟩|⟨h,_⟩|⟨h,_⟩|h
      ·omega
      ·omega
      ·omega
      ·exact h
     have hrm:=ho.rem
     refine ae (St.l6 hg ho lS) ?_
     refine ae (Rc.ni hr3 hr hv) ?_
     refine ae (Rc.xC hr3 hr hv) ?_
     refine fN.use (hS.h.gZ.ch' s16.ch) hS.okh (by omega) hr.secret fun z G103 t103=>?_
     obtain⟨F103,o103,c103⟩:=t103.out
     have s103:=s16.new o103 c103
     have lz:=(bm.own (i:=0) s103 rfl).leaf
     refine ae (tv0 _ _) ?_
     refine ae (tv1 _ _) ?_
     rw[h1]
     refine St.vO (i:=2) s103 rfl ho l1 lz fun G106 s106=>?_
     have l2:bw wo0/\bw wp/\bw z:=⟨l1.1,l1.2.1,lz⟩
     refine ae (St.mS (au.own (i:=8) s106 rfl) ho lS) ?_
     have ia:I64 (f.s.ack+1):=by rw[<- h2];exact hrm
     rw[bg,i64_in ia.1 ia.2,aa]
     refine St.Ly (i:=2) s106 rfl ho l2 _ fun G109 s109=>?_
     have o109:({ f.s with ack:=f.s.ack+1 }:StM).ok:=⟨ho.side,ho.cap,ho.bo,ho.bp,ho.loc,ho.rem,ia,ho.atA,ho.atB,ho.sgnA,ho.sgnB,ho.heldA,ho.heldB,ho.ptsA,ho.ptsB,ho.sig,ho.failed,ho.closed⟩
     refine ae (St.vr (au.own (i:=8) s109 rfl) ho lS) ?_
     refine St.Kl (s:={ f.s with ack:=f.s.ack+1 }) (i:=2) s109 rfl o109 l2 _ _ fun G111 s111=>?_
     have o111:({ f.s with ack:=f.s.ack+1,heldA:=f.s.sgnA,heldB:=f.s.sgnB }:StM).ok:=⟨ho.side,ho.cap,ho.bo,ho.bp,ho.loc,ho.rem,ia,ho.atA,ho.atB,ho.sgnA,ho.sgnB,ho.sgnA,ho.sgnB,ho.ptsA,ho.ptsB,ho.sig,ho.failed,ho.closed⟩
     refine ae (v:=.ptr i1 [13,1] 48) rfl ?_
     refine ae (St.zb (au.own (i:=8) s111 rfl) ho lS) ?_
     refine ae (Rc.An (au.own (i:=7) s111 rfl) hr hv) ?_
     refine ae (AR ho.ptsB hr.point) ?_
     refine St.IU (s:={ f.s with ack:=f.s.ack+1,heldA:=f.s.sgnA,heldB:=f.s.sgnB }) (i:=2) s111 rfl o111 l2 ho.ptsB hr.point fun G116 s116=>?_
     have o116:(uQ f r).s.ok:=⟨ho.side,ho.cap,ho.bo,ho.bp,ho.loc,ho.rem,ia,ho.atA,ho.atB,ho.sgnA,ho.sgnB,ho.sgnA,ho.sgnB,ho.ptsB,hr.point,ho.sig,ho.failed,ho.closed⟩
     have s116:Sp [] G [bm 34 z ((tw f.h r.index r.secret).1.map b6.av),bm 36 wp (f.p.map aL.av),au i10 ((uQ f r).s.av wo0 wp z),bm 34 wh (f.h.map b6.av),bm 36 wp0 ((cw f.p f.s.atB).map aL.av),bm 36 wo0 (f.o.map aL.av),au i5 (StM.zero.av .nilSlice .nilSlice .nilSlice),au i3 (r.av v),au i1 (f.s.av vo vp vh)] G116:=s116
     refine ae (St.ld (au.own (i:=2) s116 rfl) o116 l2) ?_
     refine ae (nk rfl) ?_
     rw[aN]
     refine ae (St.mn (au.own (i:=8) s116 rfl) ho lS) ?_
     refine ae (St.mS (au.own (i:=8) s116 rfl) ho lS) ?_
     rw[bg,i64_in ia.1 ia.2,aa]
     refine ae (nk h2) ?_
     rw[aN]
     refine ae (Rc.ni (au.own (i:=7) s116 rfl) hr hv) ?_
     refine ae (St.mS (au.own (i:=8) s116 rfl) ho lS) ?_
     refine ae (nk h3) ?_
     refine St.st (i:=6) s116 rfl StM.bq lv0 o116 l2 fun G126 s126=>?_
     refine⟨⟨St.mS (au.own (i:=8) s126 rfl) ho lS,Rc.ni (au.own (i:=7) s126 rfl) hr hv,trivial⟩,?_⟩
     refine ae (St.ld (au.own (i:=6) s126 rfl) o116 l2) ?_
     exact hQ wo0 wp z G126 ((((s126.front (i:=5) rfl).front (i:=2) rfl).front (i:=2) rfl).take 3)
    ·exfalso
     rcases h with ⟨h,_⟩|⟨h,_⟩|⟨h,_⟩|⟨h,_⟩
     ·exact hk1 h
     ·exact hk2 h
     ·exact hk3 h
     ·exact hk4 h
end
end Go.Esc.M
namespace Go.Esc.M
open Go Go.Esc
theorem Ab {o p:List aL}{a b:Int}(ha:0≤a) (h:a≤b):kX o p b≤kX o p a:=by
 unfold kX ml cw
 rw[List.length_map,List.length_map,<- List.countP_eq_length_filter,<- List.countP_eq_length_filter]
 refine List.countP_mono_left fun u hu ho=>?_
 simp only[Bool.and_eq_true,decide_eq_true_eq]at ho ⊢
 refine⟨ho.1,ho.2.1,?_⟩
 refine Classical.byContradiction fun hne=>?_
 have:=pP (id:=u.id) (l:=p) (show a.toNat≤b.toNat by omega) hne
 rw[this]at ho
 exact hne ho.2.2
theorem Aa (o p:List aL) (u:aL) (a:Int):kX (o++[u]) p a≤kX o p a+(if u.kind=1 then 1 else 0):=by
 unfold kX ml
 rw[List.length_map,List.length_map,List.filter_append,List.length_append]
 refine Nat.add_le_add_left ?_ _
 simp only[List.filter_cons,List.filter_nil]
 by_cases h:u.kind=1
 ·rw[if_pos h]
  split<;>simp
 ·rw[if_neg h,dF_ h,Bool.false_and]
  simp
theorem Ai {A X:List aL}{u:aL}(h:kJ A X u=0):A.length<2048:=by
 refine Classical.byContradiction fun hn=>?_
 unfold kJ at h
 rw[if_pos (by omega)]at h
 cases h
theorem toNat_le {a:Int}{n:Nat}(h:a≤(n:Int)):a.toNat≤n:=by omega
theorem iY.ours {f:StF}(I:iY f) {u:aL}(hu:u.ok) (hn:kJ f.o (f.p.take f.s.heldB.toNat) u=0) (ha:u.kind=1->u.amount≤SB f.s.bo f.o f.p f.s.atA.toNat f.s.heldB.toNat/\kX f.o f.p f.s.heldB<483):iY (q6 f u):=by
 have hlt:=Ai hn
 obtain⟨hv,h1,h2⟩:=nG hn
 have hA:f.s.atA.toNat≤f.o.length:=toNat_le (by have:=I.a1;have:=I.a2;have:=I.a3;omega)
 have e1:(f.o++[u]).take f.s.atA.toNat=f.o.take f.s.atA.toNat:=nu f.o u hA
 have hb:oX f.s.bo f.s.bp (f.o++[u]) f.p f.s.atA.toNat f.s.heldB.toNat:=by
  by_cases hk:u.kind=1
  ·exact I.book.add hlt hk (h1 hk) hu hv (ha hk).1
  ·obtain⟨b,_,b2,b3,b4⟩:=sv (h2 hk).1
   exact I.book.rem hlt hk ⟨b,b2,b3,b4⟩ hu hv
 refine⟨I.ok,rn I.oko hu,I.okp,I.okh,I.lh,I.a0,I.a1,I.a2,?_,I.b0,I.b1,I.b2,I.b3,At I.go hn,?_,hb.s0,hb.s1,?_,?_,I.bo,I.bp,I.cap,I.capm,I.side,I.loc0,I.loc1,I.ack0,I.rem,I.rem1⟩
 ·show f.s.sgnA≤((f.o++[u]).length:Nat)
  rw[List.length_append];have:=I.a3;omega
 ·show o7 f.p ((f.o++[u]).take f.s.atA.toNat)
  rw[e1];exact I.gp
 ·show kX (f.o++[u]) f.p f.s.heldB≤483
  have:=Aa f.o f.p u f.s.heldB
  by_cases hk:u.kind=1
  ·rw[if_pos hk]at this;have:=(ha hk).2;omega
  ·rw[if_neg hk]at this;have:=I.no;omega
 ·show kX f.p (f.o++[u]) f.s.atA≤483
  have e:kX f.p (f.o++[u]) f.s.atA=kX f.p f.o f.s.atA:=by unfold kX cw;rw[e1]
  rw[e];exact I.np
theorem iY.kA {f:StF}(I:iY f) {u:aL}(hu:u.ok) (hn:kJ f.p (f.o.take f.s.atA.toNat) u=0) (ha:u.kind=1->u.amount≤SB f.s.bp f.p f.o f.s.heldB.toNat f.s.atA.toNat/\kX f.p f.o f.s.atA<483):iY ⟨f.s,f.o,f.p++[u],f.h⟩:=by
 have hlt:=Ai hn
 obtain⟨hv,h1,h2⟩:=nG hn
 have hB:f.s.heldB.toNat≤f.p.length:=toNat_le (by have:=I.b1;have:=I.b2;have:=I.b3;omega)
 have e1:(f.p++[u]).take f.s.heldB.toNat=f.p.take f.s.heldB.toNat:=nu f.p u hB
 have hb:oX f.s.bp f.s.bo (f.p++[u]) f.o f.s.heldB.toNat f.s.atA.toNat:=by
  by_cases hk:u.kind=1
  ·exact I.book.swap.add hlt hk (h1 hk) hu hv (ha hk).1
  ·obtain⟨b,_,b2,b3,b4⟩:=sv (h2 hk).1
   exact I.book.swap.rem hlt hk ⟨b,b2,b3,b4⟩ hu hv
 refine⟨I.ok,I.oko,rn I.okp hu,I.okh,I.lh,I.a0,I.a1,I.a2,I.a3,I.b0,I.b1,I.b2,?_,?_,At I.gp hn,hb.s1,hb.s0,?_,?_,I.bo,I.bp,I.cap,I.capm,I.side,I.loc0,I.loc1,I.ack0,I.rem,I.rem1⟩
 ·show f.s.atB≤((f.p++[u]).length:Nat)
  rw[List.length_append];have:=I.b3;omega
 ·show o7 f.o ((f.p++[u]).take f.s.heldB.toNat)
  rw[e1];exact I.go
 ·show kX f.o (f.p++[u]) f.s.heldB≤483
  have e:kX f.o (f.p++[u]) f.s.heldB=kX f.o f.p f.s.heldB:=by unfold kX cw;rw[e1]
  rw[e];exact I.no
 ·show kX (f.p++[u]) f.o f.s.atA≤483
  have:=Aa f.p f.o u f.s.atA
  by_cases hk:u.kind=1
  ·rw[if_pos hk]at this;have:=(ha hk).2;omega
  ·rw[if_neg hk]at this;have:=I.np;omega
theorem iY.offer {f:StF}(I:iY f) {a:Int}{h:List UInt8}(hh:h.length=32) (h0:(n8 f a h).2=0) :
  ∃ u,n8 f a h=(pe u,0)/\u.ok/\u.kind=1/\iY (q6 f u)/\Bb f (pe u) [] (q6 f u)/\u.note=[]:=by
 unfold n8 at h0 ⊢
 split at h0
 ·cases h0
 rename_i h1
 rw[if_neg h1]
 split at h0
 ·cases h0
 rename_i h2
 rw[if_neg h2]
 split at h0
 ·cases h0
 rename_i h3
 rw[if_neg h3]
 split at h0
 ·cases h0
 rename_i h4
 rw[if_neg h4]
 split at h0
 ·cases h0
 rename_i h5
 rw[if_neg h5]
 have hlo:=I.lo
 have hal:=tJ f.o
 have hfu:f.o.length<2048:=by
  refine Classical.byContradiction fun hn=>h3 ?_
  unfold yr
  rw[dT_ (by omega),Bool.true_or]
 rw[I.fB]at h4
 rw[I.xl.1]at h5
 have hu:(⟨1,((j7 f.o:Nat):Int),a,h,[]⟩:aL).ok:=⟨iu 1 (by decide) (by decide),iu ((j7 f.o:Nat):Int) (by omega) (by omega),iu a (by omega) (by omega),hh,by simp⟩
 have hv:dp ⟨1,((j7 f.o:Nat):Int),a,h,[]⟩=true:=by
  unfold dp Ek
  simp only[if_pos,Bool.and_eq_true,decide_eq_true_eq]
  refine⟨by omega,by omega,by omega,by omega,trivial⟩
 have hn:∀ X,kJ f.o X ⟨1,((j7 f.o:Nat):Int),a,h,[]⟩=0:=by
  intro X
  unfold kJ
  rw[if_neg (by omega),if_neg (by rw[hv];decide),if_pos rfl]
  exact if_pos rfl
 refine⟨_,rfl,hu,rfl,I.ours hu (hn _) fun _=>⟨by show a≤_;omega,by omega⟩,.inl ⟨rfl,hn _,rfl⟩,rfl⟩
theorem iY.y9 {f:StF}(I:iY f) {u:aL}(hu:u.ok) (hv:dp u=true\/64<u.note.length\/u.id<0\/2048≤u.id) (hk:u.kind≠1) (h0:(j4 f u).2=0) :
  j4 f u=(pe u,0)/\iY (q6 f u)/\Bb f (pe u) [] (q6 f u):=by
 unfold j4 at h0 ⊢
 split at h0
 ·cases h0
 rename_i h1
 rw[if_neg h1]
 split at h0
 ·cases h0
 rename_i h2
 rw[if_neg h2]
 split at h0
 ·cases h0
 rename_i h3
 rw[if_neg h3]
 have hfu:f.o.length<2048:=by
  refine Classical.byContradiction fun hn=>h3 ?_
  unfold yr
  rw[dT_ (by omega),Bool.true_or]
 have h2:tA f u=true:=(Bool.not_eq_false _).mp h2
 unfold tA at h2
 simp only[Bool.and_eq_true,Bool.not_eq_true',Bool.or_eq_true,decide_eq_true_eq,decide_eq_false_iff_not]at h2
 obtain⟨k1,k2,k3,k4⟩:=h2
 rw[I.fB]at k1 k3
 obtain⟨b,_,b2,b3,b4⟩:=sv k1
 have hvb:=lW (I.vp b (List.mem_of_mem_take b2))
 have hv:dp u=true:=by
  rcases hv with hv|hv|hv|hv
  ·exact hv
  ·omega
  ·omega
  ·omega
 have hn:kJ f.o (f.p.take f.s.heldB.toNat) u=0:=by
  unfold kJ
  rw[if_neg (by omega),if_neg (by rw[hv];decide),if_neg hk,if_neg (by rw[show (ey false u.id (f.p.take f.s.heldB.toNat)).isSome=true from k1];decide),if_neg (by rw[k2];decide),if_neg]
  rintro⟨c1,c2⟩
  rcases k3 with k3|k3
  ·exact k3 c1
  ·exact c2 k3
 refine⟨rfl,I.ours hu hn fun h=>absurd h hk,.inl ⟨rfl,?_,rfl⟩⟩
 have:=vn (Y:=f.p.drop f.s.heldB.toNat) hn
 rwa [List.take_append_drop]at this
theorem iY.sign {f:StF}(I:iY f) (h0:(p6 f).2=0) :
  p6 f=({ RcM.zero with kind:=2,index:=f.s.rem+1,cntA:=(f.o.length:Nat),cntB:=f.s.atB },0)/\({ RcM.zero with kind:=2,index:=f.s.rem+1,cntA:=(f.o.length:Nat),cntB:=f.s.atB }:RcM).ok ∧
  iY (yG f { RcM.zero with kind:=2,index:=f.s.rem+1,cntA:=(f.o.length:Nat),cntB:=f.s.atB })/\Bb f { RcM.zero with kind:=2,index:=f.s.rem+1,cntA:=(f.o.length:Nat),cntB:=f.s.atB } [] (yG f { RcM.zero with kind:=2,index:=f.s.rem+1,cntA:=(f.o.length:Nat),cntB:=f.s.atB })/\f.s.rem=f.s.ack:=by
 unfold p6 at h0 ⊢
 split at h0
 ·cases h0
 rename_i h1
 rw[if_neg h1]
 split at h0
 ·cases h0
 rename_i h2
 rw[if_neg h2]
 split at h0
 ·cases h0
 rename_i h3
 rw[if_neg h3]
 have hra:f.s.rem=f.s.ack:=Classical.byContradiction fun hn=>h2 (.inl hn)
 have ha:=I.ack0
 have hlo:=I.lo
 have h4:=I.a2
 have h5:=I.a3
 have h6:=I.b1
 have h7:=I.b2
 have h8:=I.b3
 have hrok:({ RcM.zero with kind:=2,index:=f.s.rem+1,cntA:=(f.o.length:Nat),cntB:=f.s.atB }:RcM).ok:=
  ⟨iu 2 (by decide) (by decide),aL.bq,iu (f.s.rem+1) (by omega) (by omega),iu (f.o.length:Nat) (by omega) (by omega),I.ok.atB,rfl,rfl,rfl,cL⟩
 have ho:=I.ok
 have hok:(yG f { RcM.zero with kind:=2,index:=f.s.rem+1,cntA:=(f.o.length:Nat),cntB:=f.s.atB }).s.ok:=⟨ho.side,ho.cap,ho.bo,ho.bp,ho.loc,hrok.index,ho.ack,ho.atA,ho.atB,hrok.cntA,ho.atB,ho.heldA,ho.heldB,ho.ptsA,ho.ptsB,ho.sig,ho.failed,ho.closed⟩
 refine⟨rfl,hrok,⟨hok,I.oko,I.okp,I.okh,I.lh,I.a0,I.a1,?_,?_,I.b0,?_,?_,I.b3,I.go,I.gp,I.so,I.sp,I.no,I.np,I.bo,I.bp,I.cap,I.capm,I.side,I.loc0,I.loc1,I.ack0,?_,?_⟩,.inr (.inl ⟨rfl,hra,rfl,rfl,h5,Int.le_refl _,rfl⟩),hra⟩
 ·show f.s.heldA≤(f.o.length:Nat);omega
 ·show ((f.o.length:Nat):Int)≤(f.o.length:Nat);omega
 ·show f.s.heldB≤f.s.atB;omega
 ·show f.s.atB≤f.s.atB;omega
 ·exact .inr (by show f.s.rem+1=f.s.ack+1;omega)
 ·show f.s.rem+1≤_;omega
theorem FK {p:List aL}{n:Int}:cw p n++p.drop (cw p n).length=p:=by
 unfold cw
 rw[List.length_take]
 by_cases h:n.toNat≤p.length
 ·rw[Nat.min_eq_left h,List.take_append_drop]
 ·rw[Nat.min_eq_right (by omega),List.take_of_length_le (by omega),List.drop_length,List.append_nil]
def yy (f:StF) (i:Int) (sig:List UInt8):StF:=⟨{ f.s with loc:=i,atA:=f.s.heldA,atB:=(f.p.length:Nat),sig:=sig,behind:=false },f.o,f.p,f.h⟩
def AO (m:cr):RcM:={ RcM.zero with kind:=3,index:=m.index,sig:=m.hash }
theorem iY.came {f:StF}(I:iY f) {c:CfM}{m:cr}(hm:m.ok) (h0:(mU c f m).e=0) :
  mU c f m=⟨AO m,f.p.drop (cw f.p f.s.atB).length,0⟩/\(AO m).ok/\iY (yy f m.index m.hash)/\Bb f (AO m) (f.p.drop (cw f.p f.s.atB).length) (yy f m.index m.hash)/\m.kind=4/\m.index=f.s.loc+1:=by
 unfold mU at h0 ⊢
 split at h0
 ·cases h0
 rename_i h1
 rw[if_neg h1]
 split at h0
 ·cases h0
 rename_i h2
 rw[if_neg h2]
 split at h0
 ·cases h0
 rename_i h3
 rw[if_neg h3]
 split at h0
 ·cases h0
 rename_i h4
 rw[if_neg h4]
 split at h0
 ·cases h0
 rename_i h5
 rw[if_neg h5]
 have h6:=I.a0
 have h7:=I.a1
 have h8:=I.a2
 have h9:=I.a3
 have b0:=I.b0
 have b1:=I.b1
 have b2:=I.b2
 have b3:=I.b3
 have hl0:=I.loc0
 have hlp:=I.lp
 have hk:m.kind=4:=Classical.byContradiction fun hn=>h2 hn
 have hix:m.index=f.s.loc+1:=Classical.byContradiction fun hn=>h3 (.inr hn)
 have hlc:f.s.loc≤281474976710653:=Classical.byContradiction fun hn=>h3 (.inl (by omega))
 have ho:=I.ok
 have hrok:(AO m).ok:=⟨iu 3 (by decide) (by decide),aL.bq,hm.index,cL,cL,hm.hash,rfl,rfl,cL⟩
 have hok:(yy f m.index m.hash).s.ok:=⟨ho.side,ho.cap,ho.bo,ho.bp,hm.index,ho.rem,ho.ack,ho.heldA,iu (f.p.length:Nat) (by omega) (by omega),ho.sgnA,ho.sgnB,ho.heldA,ho.heldB,ho.ptsA,ho.ptsB,hm.hash,ho.failed,ho.closed⟩
 have hfix:=I.book.fix (g:=f.s.heldA.toNat) (by omega) (by omega)
 have hap:xS f (AO m) (f.p.drop (cw f.p f.s.atB).length)=yy f m.index m.hash:=by
  unfold xS yy
  rw[FK]
  rfl
 refine⟨rfl,hrok,⟨hok,I.oko,I.okp,I.okh,I.lh,?_,?_,I.a2,I.a3,I.b0,I.b1,?_,?_,I.go,B8 I.gp (by show f.s.atA.toNat≤f.s.heldA.toNat;omega),hfix.s0,hfix.s1,I.no,?_,I.bo,I.bp,I.cap,I.capm,I.side,?_,?_,I.ack0,I.rem,I.rem1⟩,.inr (.inr (.inl ⟨rfl,fun j u hj=>?_,hix,hap.symm⟩)),hk,hix⟩
 ·show 0≤f.s.heldA;omega
 ·show f.s.heldA≤f.s.heldA;omega
 ·show f.s.sgnB≤(f.p.length:Nat);omega
 ·show ((f.p.length:Nat):Int)≤(f.p.length:Nat);omega
 ·exact Nat.le_trans (Ab I.a0 I.a1) I.np
 ·show 0≤m.index;omega
 ·show m.index≤_;omega
 ·have hn:(cw f.p f.s.atB).length=f.s.atB.toNat:=by unfold cw;rw[List.length_take];omega
  rw[hn]at hj ⊢
  rw[List.getElem?_drop]at hj
  have e:cw f.p f.s.atB++(f.p.drop f.s.atB.toNat).take j=f.p.take (f.s.atB.toNat+j):=by
   unfold cw
   rw[List.take_add]
  rw[e]
  have:=vn (Y:=f.o.drop f.s.atA.toNat) (I.gp _ u hj)
  rwa [List.take_append_drop]at this
theorem iY.y8 {f:StF}(I:iY f) {m:cr}(hm:m.ok) (h0:(jR f m).2=0) :
  jR f m=({ RcM.zero with kind:=4,index:=f.s.ack,secret:=m.secret,point:=m.hash },0)/\({ RcM.zero with kind:=4,index:=f.s.ack,secret:=m.secret,point:=m.hash }:RcM).ok ∧
  iY (uQ f { RcM.zero with kind:=4,index:=f.s.ack,secret:=m.secret,point:=m.hash })/\Bb f { RcM.zero with kind:=4,index:=f.s.ack,secret:=m.secret,point:=m.hash } [] (uQ f { RcM.zero with kind:=4,index:=f.s.ack,secret:=m.secret,point:=m.hash })/\m.kind=5/\m.index=f.s.ack/\f.s.rem=f.s.ack+1/\sha m.secret=f.s.ptsA/\(tw f.h f.s.ack m.secret).2=0:=by
 unfold jR at h0 ⊢
 have hrem:=I.rem
 have hrem1:=I.rem1
 have hack:=I.ack0
 split at h0
 ·cases h0
 rename_i h1
 rw[if_neg h1]
 split at h0
 ·cases h0
 rename_i h2
 rw[if_neg h2]
 split at h0
 ·cases h0
 rename_i h3
 rw[if_neg h3]
 split at h0
 ·cases h0
 rename_i h4
 rw[if_neg h4]
 split at h0
 ·cases h0
 rename_i h5
 rw[if_neg h5]
 rw[i64_in (n:=f.s.rem-1) (by omega) (by omega)]at h3
 have b0:=I.b0
 have b1:=I.b1
 have b2:=I.b2
 have b3:=I.b3
 have a1:=I.a1
 have a2:=I.a2
 have ho:=I.ok
 have hput:(tw f.h f.s.ack m.secret).2=0:=Classical.byContradiction fun hn=>h5 hn
 have hsh:sha m.secret=f.s.ptsA:=Classical.byContradiction fun hn=>h4 hn
 have hk:m.kind=5:=Classical.byContradiction fun hn=>h2 hn
 have hra:f.s.rem=f.s.ack+1:=by omega
 have hix:m.index=f.s.ack:=by omega
 have hrok:({ RcM.zero with kind:=4,index:=f.s.ack,secret:=m.secret,point:=m.hash }:RcM).ok:=⟨iu 4 (by decide) (by decide),aL.bq,ho.ack,cL,cL,rfl,hm.secret,hm.hash,cL⟩
 have hok:(uQ f { RcM.zero with kind:=4,index:=f.s.ack,secret:=m.secret,point:=m.hash }).s.ok:=⟨ho.side,ho.cap,ho.bo,ho.bp,ho.loc,ho.rem,iu (f.s.ack+1) (by omega) (by omega),ho.atA,ho.atB,ho.sgnA,ho.sgnB,ho.sgnA,ho.sgnB,ho.ptsB,hm.hash,ho.sig,ho.failed,ho.closed⟩
 have hfix:=(I.book.swap.fix (g:=f.s.sgnB.toNat) (by omega) (by omega)).swap
 refine⟨rfl,hrok,⟨hok,I.oko,I.okp,Kq I.okh hm.secret,I5 _ _ _,I.a0,?_,?_,I.a3,?_,?_,I.b2,I.b3,B8 I.go (by show f.s.heldB.toNat≤f.s.sgnB.toNat;omega),I.gp,hfix.s0,hfix.s1,?_,I.np,I.bo,I.bp,I.cap,I.capm,I.side,I.loc0,I.loc1,?_,?_,I.rem1⟩,.inr (.inr (.inr ⟨rfl,hput,hra,rfl,rfl⟩)),hk,hix,hra,hsh,hput⟩
 ·show f.s.atA≤f.s.sgnA;omega
 ·show f.s.sgnA≤f.s.sgnA;omega
 ·show 0≤f.s.sgnB;omega
 ·show f.s.sgnB≤f.s.sgnB;omega
 ·exact Nat.le_trans (Ab I.b0 I.b1) I.no
 ·show 0≤f.s.ack+1;omega
 ·exact .inl hra
theorem iY.heard {f:StF}(I:iY f) {u:aL}(hu:u.ok) (h0:vu f u=0):iY ⟨f.s,f.o,f.p++[u],f.h⟩/\kJ f.p (f.o.take f.s.atA.toNat) u=0:=by
 unfold vu at h0
 split at h0
 ·cases h0
 rename_i h1
 split at h0
 ·cases h0
 rename_i h2
 split at h0
 ·cases h0
 rename_i h3
 have h3:kJ f.p f.o u=0:=Classical.byContradiction fun hn=>h3 hn
 have hlt:=Ai h3
 obtain⟨hv,k1,k2⟩:=nG h3
 rw[I.fA]at h0
 by_cases hk:u.kind=1
 ·rw[if_pos hk]at h0
  split at h0
  ·cases h0
  rename_i h4
  split at h0
  ·cases h0
  rename_i h5
  rw[I.xk.1]at h5
  have hn:kJ f.p (f.o.take f.s.atA.toNat) u=0:=by
   unfold kJ
   rw[if_neg (by omega),if_neg (by rw[hv];decide),if_pos hk,if_pos (k1 hk)]
  exact⟨I.kA hu hn fun _=>⟨by omega,by omega⟩,hn⟩
 ·rw[if_neg hk]at h0
  split at h0
  ·cases h0
  rename_i h4
  split at h0
  ·cases h0
  rename_i h5
  have hn:kJ f.p (f.o.take f.s.atA.toNat) u=0:=by
   unfold kJ
   rw[if_neg (by omega),if_neg (by rw[hv];decide),if_neg hk,if_neg (show ¬ (ey false u.id (f.o.take f.s.atA.toNat)).isSome=false from h4),if_neg (by rw[(k2 hk).2.1];decide)]
   exact if_neg h5
  exact⟨I.kA hu hn fun h=>absurd h hk,hn⟩
theorem iY.fail {f:StF}(I:iY f) {n:Int}(hn:I64 n):iY ⟨{ f.s with failed:=n },f.o,f.p,f.h⟩:=by
 have ho:=I.ok
 exact⟨⟨ho.side,ho.cap,ho.bo,ho.bp,ho.loc,ho.rem,ho.ack,ho.atA,ho.atB,ho.sgnA,ho.sgnB,ho.heldA,ho.heldB,ho.ptsA,ho.ptsB,ho.sig,hn,ho.closed⟩,I.oko,I.okp,I.okh,I.lh,I.a0,I.a1,I.a2,I.a3,I.b0,I.b1,I.b2,I.b3,I.go,I.gp,I.so,I.sp,I.no,I.np,I.bo,I.bp,I.cap,I.capm,I.side,I.loc0,I.loc1,I.ack0,I.rem,I.rem1⟩
theorem iY.start {c:CfM}(hc:c.ok) (h:¬ nF c):iY ⟨(mm c).1,[],[],[]⟩:=by
 have hok:=pN hc
 have h2:right c.cap=true:=by
  have h1:¬ right c.cap=false:=fun hh=>h (.inr (.inr (.inr (.inl hh))))
  simpa using h1
 have h3:=lZ.1 h2
 have h0:¬ c.side<0:=fun hh=>h (.inl hh)
 have h1:¬ 1<c.side:=fun hh=>h (.inr (.inl hh))
 have h4:¬ c.ours<0:=fun hh=>h (.inr (.inr (.inr (.inr (.inl hh)))))
 have h5:¬ c.cap<c.ours:=fun hh=>h (.inr (.inr (.inr (.inr (.inr hh)))))
 have h6:¬ c.cap<1:=fun hh=>h (.inr (.inr (.inl hh)))
 unfold mm at hok ⊢
 rw[if_neg h]at hok ⊢
 have nn:∀ {X:List aL},o7 [] X:=fun {X} j u hj=>by simp at hj
 have e0:∀ {a:Int}{n m:Nat},SB a [] [] n m=a:=by intro a n m;simp[SB,gG]
 have on:∀ {a:Int},kX [] [] a≤483:=by intro a;simp[kX,ml]
 have z0:(0:Int)≤0:=by decide
 have z1:(0:Int)≤281474976710654:=by decide
 refine⟨hok,by simp,by simp,by simp,by simp,z0,z0,z0,z0,z0,z0,z0,z0,nn,nn,?_,?_,on,on,?_,?_,?_,?_,?_,z0,z1,z0,.inl rfl,z1⟩
 ·show 0≤SB c.ours [] [] 0 0;rw[e0];omega
 ·show 0≤SB (c.cap-c.ours) [] [] 0 0;rw[e0];omega
 ·show 0≤c.ours;omega
 ·show 0≤c.cap-c.ours;omega
 ·show c.ours+(c.cap-c.ours)=c.cap;omega
 ·show c.cap≤_;omega
 ·show c.side=0\/c.side=1;omega
end Go.Esc.M
set_option linter.unusedSectionVars false
namespace Go.Esc
open Go Go.RowKit
def Qu (n:Nat) (G:ak) (v:ah) (vs:List ah):Prop:=
 (v=.nilSlice/\vs=[])\/∃ id k len cap cs,v=.slice id [] k (k*n) len cap/\G id=some (.own (.agg cs))/\k+cap≤cs.length/\len≤cap/\uni n cs=true/\vs=(cs.drop k).take len
theorem Qu.is {n:Nat}{G:ak}{v:ah}{vs:List ah}(h:Qu n G v vs):ff n G v vs:=by
 rcases h with h|⟨id,k,len,cap,cs,rfl,hg,hc,hl,hu,rfl⟩
 ·exact .inr h
 ·refine .inl ⟨_,_,_,_,_,_,rfl,?_⟩
  have h1:lO G n id [] k (k*n)=some cs:=by simp[lO,nI,hg,mQ,sub,hu]
  simp only[gq,h1]
  rw[if_pos (by omega)]
theorem Qu.leaf {n:Nat}{G:ak}{v:ah}{vs:List ah}(h:Qu n G v vs):sz v=1/\v.isAgg=false/\okv v=true:=by
 rcases h with ⟨rfl,_⟩|⟨_,_,_,_,_,rfl,_⟩<;>exact⟨rfl,rfl,rfl⟩
theorem Qu.own {n:Nat}{G:ak}{v:ah}{vs:List ah}(h:Own n G v vs):Qu n G v vs:=by
 rcases h with h|⟨id,len,cap,cs,rfl,hg,hc,hl,hu,rfl⟩
 ·exact .inl h
 ·exact .inr ⟨id,0,len,cap,cs,by rw[Nat.zero_mul],hg,by omega,hl,hu,by rw[List.drop_zero]⟩
def QuL (n:Nat) (v:ah) (vs:List ah):LP where
 p:=fun G F=>Qu n G v vs/\F=(rowOf v).toList
 rows:=by
  rintro G F ⟨h,rfl⟩ j hj
  rcases h with ⟨rfl,_⟩|⟨id,k,len,cap,cs,rfl,hg,_⟩
  ·simp[rowOf]at hj
  ·simp[rowOf]at hj;subst hj;simp[hg]
 loc:=by
  rintro G G' F ⟨h,rfl⟩ hs
  refine⟨?_,rfl⟩
  rcases h with h|⟨id,k,len,cap,cs,rfl,hg,h⟩
  ·exact .inl h
  ·exact .inr ⟨id,k,len,cap,cs,rfl,by rw[hs id (by simp[rowOf])];exact hg,h⟩
section
variable {F0:List AId}{G0 G:ak}{ps:List LP}
theorem QuL.qu {i n:Nat}{v:ah}{vs:List ah}(h:Sp F0 G0 ps G) (hi:ps[i]?=some (QuL n v vs)):Qu n G v vs:=by
 obtain⟨F,h,_⟩:=h.get hi
 exact h
theorem bm.qu {i n:Nat}{v:ah}{vs:List ah}(h:Sp F0 G0 ps G) (hi:ps[i]?=some (bm n v vs)):Sp F0 G0 (ps.set i (QuL n v vs)) G:=
 h.call hi (QuL n v vs) fun F ⟨ho,hF⟩ k=>k F G ⟨Qu.own ho,hF⟩ (Ch.refl _ _)
variable {T:Tbl}{ts e:TypeId}{si ie:TI} (ht:T ts=some si) (hd:si.desc=.slice e) (he:T e=some ie)
include ht hd he in
theorem Qu.rest {v x:ah}{vs:List ah}(h:Qu ie.size G v (x::vs)):∃ w,dV T ts v (some (.int .i64 1)) none none=some w/\Qu ie.size G w vs/\(rowOf w=rowOf v):=by
 rcases h with ⟨_,h⟩|⟨id,k,len,cap,cs,rfl,hg,hc,hl,hu,hv⟩
 ·cases h
 ·have hlen:1≤len:=by
   have:=congrArg List.length hv
   rw[List.length_cons,List.length_take]at this
   omega
  have h1:j8 len cap (some (.int .i64 1)) none none=some (1,len,cap):=by
   have:=qB (k:=.i64) (m:=1) (len:=len) (cap:=cap) hlen hl
   simpa using this
  have e1:vs=(cs.drop (k+1)).take (len-1):=by
   obtain⟨m,rfl⟩:∃ m,len=m+1:=⟨len-1,by omega⟩
   rw[List.drop_eq_getElem_cons (show k<cs.length by omega),List.take_succ_cons]at hv
   injection hv with _ h2
  refine⟨.slice id [] (if cap=1 then k else k+1) (if cap=1 then k*ie.size else k*ie.size+1*ie.size) (len-1) (cap-1),?_,?_,rfl⟩
  ·simp only[dV,ht,hd,he,h1]
  ·by_cases hcm:cap=1
   ·rw[if_pos hcm,if_pos hcm]
    refine .inr ⟨id,k,len-1,cap-1,cs,rfl,hg,by omega,by omega,hu,?_⟩
    rw[e1,show len-1=0 by omega,List.take_zero,List.take_zero]
   ·rw[if_neg hcm,if_neg hcm]
    exact .inr ⟨id,k+1,len-1,cap-1,cs,by rw[Nat.add_mul],hg,by omega,by omega,hu,e1⟩
variable (hz:sz ie.zero=ie.size) (hb:ie.bytes≠0)
include ht hd he hz hb in
theorem K9 {i:Nat}{s:ah}{vs:List ah}{c:ah}{K:ah->ak->Prop}(hs:Sp F0 G0 ps G) (hi:ps[i]?=some (QuL ie.size s vs)) (hc:sz c=ie.size) (hok:okv c=true) (hie:ie.size≤16777216) (hl:(vs.length+1)*ie.bytes≤140737488355328)
  (hK:∀ s' G',Sp F0 G0 (ps.set i (QuL ie.size s' (vs++[c]))) G'->K s' G'):bu T ts 1 [(0,c)] G fun v G'=>cn T G' ts ts s v K:=by
 refine Df ht hd he hz hs hc hie fun x G1 s1=>?_
 have hx:=(bm.own (i:=0) s1 rfl).is.elems
 have hi1:(bm ie.size x [c]::ps)[i+1]?=some (QuL ie.size s vs):=by simpa using hi
 have hq:=QuL.qu s1 hi1
 have hu1:uni ie.size [c]=true:=by simp[Esc.uni,hc]
 have fin:∀ s' G2,Sp F0 G0 ((bm ie.size x [c]::ps).set (i+1) (QuL ie.size s' (vs++[c]))) G2->K s' G2:=fun s' G2 h=>hK s' G2 (by simpa using h.erase 0)
 refine⟨?_⟩
 unfold rH
 simp only[ht,hd,he,hx]
 refine⟨.inr ⟨e,rfl⟩,?_⟩
 have hgrow:∀ olds:List ah,uni ie.size olds=true->olds=vs->grow ie G1 olds [c] K:=by
  intro olds huo ho
  subst ho
  refine⟨by simpa using hl,hb,fun id cap hf hle hcap=>fin _ _ ?_⟩
  refine s1.call hi1 (QuL ie.size (.slice id [] 0 0 (olds.length+[c].length) cap) (olds++[c])) fun F h k=>k [id] _ ⟨.inr ⟨id,0,olds.length+1,cap,olds++[c]++List.replicate (cap-(olds.length+[c].length)) ie.zero,by simp,ak.dR _ _ _,by simp at hle ⊢;omega,by simpa using hle,mH (mH huo hu1) (nq hz),?_⟩,rfl⟩ ?_
  ·rw[List.drop_zero,List.take_left' (by simp)]
  ·obtain⟨_,rfl⟩:=h
   exact⟨pa.of_le (hf.le _),fun j o hj _=>hf.le _ _ _ hj,fun j hj=>by simp at hj;subst hj;exact .inr hf.none⟩
 rcases hq with ⟨rfl,rfl⟩|⟨id,k,len,cap,cs,rfl,hg,hcap,hlc,hun,hv⟩
 ·exact hgrow [] rfl rfl
 ·have hvl:vs.length=len:=by rw[hv,List.length_take,List.length_drop];omega
  have harr:lO G1 ie.size id [] k (k*ie.size)=some cs:=by simp[lO,nI,hg,mQ,sub,hun]
  refine⟨fun hle=>?_,fun hlt=>?_⟩
  ·simp only[lay,harr]
   have hle:len+1≤cap:=by simpa using hle
   refine⟨by simp;omega,by simp[mz,hok],hu1,?_⟩
   have hput:qS G1 id [] ie.size k (k*ie.size) (cs.take (k+len)++[c]++cs.drop (k+len+[c].length))=some (G1.upd id (.own (.agg (cs.take (k+len)++[c]++cs.drop (k+len+[c].length))))):=by
    simp[qS,hg,sub,putAt]
   rw[hput]
   refine fin _ _ (s1.call hi1 (QuL ie.size (.slice id [] k (k*ie.size) (len+[c].length) cap) (vs++[c])) fun F h k2=>?_)
   obtain⟨_,rfl⟩:=h
   refine k2 _ _ ⟨.inr ⟨id,k,len+1,cap,_,by simp,ak.dR _ _ _,?_,hle,mH (mH (j0 hun _) hu1) (pY hun _),?_⟩,rfl⟩ (by simpa[rowOf] using Go.Esc.M.sZ hg (by simp))
   ·simp only[List.length_append,List.length_take,List.length_drop,List.length_singleton]
    omega
   ·have e1:cs.take (k+len)++[c]++cs.drop (k+len+[c].length)=cs.take k++(((cs.drop k).take len++[c])++cs.drop (k+len+[c].length)):=by
     rw[List.take_add];simp
    rw[e1,List.drop_left' (by rw[List.length_take];omega),hv,List.take_left']
    rw[List.length_append,List.length_take,List.length_drop,List.length_singleton]
    omega
  ·have hse:gq G1 ie.size (.slice id [] k (k*ie.size) len cap)=some vs:=by
    simp only[gq,harr]
    rw[if_pos (by omega),hv]
   rw[hse]
   exact hgrow vs (by rw[hv];exact j0 (pY hun _) _) rfl
end
end Go.Esc
namespace Go.Esc.M
open Go Go.Esc
def bN (s:Bool):Nat:=bif s then 1 else 0
def bI (s:Bool):Int:=(bN s:Nat)
def mg {α:Type} (g:Bool->α) (s:Bool) (x:α):Bool->α:=fun t=>if t=s then x else g t
theorem ox {α:Type}(g:Bool->α) (s:Bool) (x:α):mg g s x s=x:=if_pos rfl
theorem qF {α:Type}(g:Bool->α) {s t:Bool}(x:α) (h:t≠s):mg g s x t=g t:=if_neg h
structure me where
 c:Bool->CfM
 f:Bool->StF
 q:Bool->List cr
structure Ls where
 o:ah
 p:ah
 h:ah
def Ls.lv (l:Ls):Prop:=bw l.o/\bw l.p/\bw l.h
def oU (t:me) (l:Bool->Ls) (w:Bool->ah):ah:=
 .agg [.agg [(t.c false).av,(t.c true).av],.agg [(t.f false).s.av (l false).o (l false).p (l false).h,(t.f true).s.av (l true).o (l true).p (l true).h],w false,w true]
abbrev nZ (tb:AId) (t:me) (l:Bool->Ls) (w:Bool->ah):List LP:=
 [au tb (oU t l w),bm 36 (l false).o ((t.f false).o.map aL.av),bm 36 (l false).p ((t.f false).p.map aL.av),bm 34 (l false).h ((t.f false).h.map b6.av),bm 36 (l true).o ((t.f true).o.map aL.av),bm 36 (l true).p ((t.f true).p.map aL.av),bm 34 (l true).h ((t.f true).h.map b6.av),
  QuL 70 (w false) ((t.q false).map cr.av),QuL 70 (w true) ((t.q true).map cr.av)]
structure kK (t:me) (n:Nat):Prop where
 c:∀ s,(t.c s).ok
 f:∀ s,iY (t.f s)
 q:∀ s,∀ m∈t.q s,m.ok
 n:∀ s,(t.q s).length≤n
def jP (tb:AId) (t:me):LP where
 p:=fun G F=>∃ l w Fs,Sps (nZ tb t l w) Fs G/\F=Fs.flatten
 rows:=by
  rintro G F ⟨l,w,Fs,h,rfl⟩
  exact h.rows
 loc:=by
  rintro G G' F ⟨l,w,Fs,h,rfl⟩ hs
  exact⟨l,w,Fs,h.same hs,rfl⟩
section
variable {F0:List AId}{G0 G:ak}{ps:List LP}{Q:ah->ak->Prop}{tb:AId}{t:me}{l:Bool->Ls}{w:Bool->ah}
theorem jP.open {F:List AId}(h:(jP tb t).p G F):∃ l w,Sp F G (nZ tb t l w) G:=by
 obtain⟨l,w,Fs,h,rfl⟩:=h
 exact⟨l,w,Fs,h,Ch.refl _ _⟩
theorem Sp.with {p:LP}{F:List AId}(h:p.p G0 F) (s:Sp [] G0 ps G):Sp F G0 (p::ps) G:=by
 obtain⟨Fs,h1,h2⟩:=s
 have hs:∀ j∈F,G j=G0 j:=fun j hj=>h2.same (E:=F) (p.rows h) (by simp) j hj
 refine⟨F::Fs,⟨p.loc h hs,fun j hj hm=>?_,h1⟩,⟨h2.ro,fun j o hj _=>h2.others j o hj (by simp),fun j hj=>?_⟩⟩
 ·rcases h2.row j hm with h'|h'
  ·simp at h'
  ·have:=p.rows h j hj
   rw[h']at this;cases this
 ·have hj:j∈F\/j∈Fs.flatten:=by simpa using hj
  rcases hj with hj|hj
  ·exact .inl hj
  ·rcases h2.row j hj with h'|h'
   ·simp at h'
   ·exact .inr h'
theorem LP.mv {p:LP}{F E:List AId}{G':ak}(h:p.p G F) (hc:Ch [] G E G'):p.p G' F:=p.loc h fun j hj=>hc.same (E:=F) (p.rows h) (by simp) j hj
structure pw (G:ak) (tb:AId) (t:me) (l:Bool->Ls) (w:Bool->ah):Prop where
 g:G tb=some (.own (oU t l w))
 lv:∀ s,(l s).lv
 lw:∀ s,bw (w s)
 o:∀ s,hJ 36 G (l s).o ((t.f s).o.map aL.av)
 p:∀ s,hJ 36 G (l s).p ((t.f s).p.map aL.av)
 h:∀ s,hJ 34 G (l s).h ((t.f s).h.map b6.av)
 q:∀ s,Qu 70 G (w s) ((t.q s).map cr.av)
theorem Sp.tab {i:Nat}(s:Sp F0 G0 ps G) (e:ps=nZ tb t l w):pw G tb t l w:=by
 subst e
 have a1:=bm.own (i:=1) s rfl
 have a2:=bm.own (i:=2) s rfl
 have a3:=bm.own (i:=3) s rfl
 have a4:=bm.own (i:=4) s rfl
 have a5:=bm.own (i:=5) s rfl
 have a6:=bm.own (i:=6) s rfl
 have a7:=QuL.qu (i:=7) s rfl
 have a8:=QuL.qu (i:=8) s rfl
 refine⟨au.own (i:=0) s rfl,fun s=>?_,fun s=>?_,fun s=>?_,fun s=>?_,fun s=>?_,fun s=>?_⟩
 ·cases s
  ·exact⟨a1.leaf,a2.leaf,a3.leaf⟩
  ·exact⟨a4.leaf,a5.leaf,a6.leaf⟩
 ·cases s
  ·exact a7.leaf
  ·exact a8.leaf
 ·cases s
  ·exact Own.nj a1
  ·exact Own.nj a4
 ·cases s
  ·exact Own.nj a2
  ·exact Own.nj a5
 ·cases s
  ·exact Own.nj a3
  ·exact Own.nj a6
 ·cases s
  ·exact a7
  ·exact a8
theorem Qu.ch' {n:Nat}{G G':ak}{E:List AId}{v:ah}{vs:List ah}(h:Qu n G v vs) (hc:Ch [] G E G'):Qu n G' v vs:=by
 rcases h with h|⟨id,k,len,cap,cs,rfl,hg,h⟩
 ·exact .inl h
 ·exact .inr ⟨id,k,len,cap,cs,rfl,hc.others _ _ hg (by simp),h⟩
theorem pw.mv {G':ak}{E:List AId}(h:pw G tb t l w) (hc:Ch [] G E G'):pw G' tb t l w:=
 ⟨hc.others _ _ h.g (by simp),h.lv,h.lw,fun s=>(h.o s).mv hc.drop,fun s=>(h.p s).mv hc.drop,fun s=>(h.h s).mv hc.drop,fun s=>Qu.ch' (h.q s) hc⟩
theorem pw.IV {n:Nat}(h:pw G tb t l w) (k:kK t n) (s:Bool):ka G (t.f s) (l s).o (l s).p (l s).h:=by
 have I:=k.f s
 have:=I.lo
 have:=I.lp
 have:=I.lh
 exact⟨I.ok,h.o s,h.p s,h.h s,I.oko,I.okp,I.okh,by omega,by omega,by omega⟩
def aC (tb:AId) (s:Bool):ah:=.ptr tb [0,bN s] (0+bN s*164)
def aS (tb:AId) (s:Bool):ah:=.ptr tb [1,bN s] (328+bN s*115)
def aQ (tb:AId) (s:Bool):ah:=.ptr tb [2+bN s] (558+bN s)
theorem jm:lr (.ptr tb [] 0)=some (.ptr tb [] 0):=rfl
theorem qP:bt T bz (.ptr tb [] 0) 0=some (.ptr tb [0] 0):=rfl
theorem qO:bt T bz (.ptr tb [] 0) 1=some (.ptr tb [1] 328):=rfl
theorem CK:bt T bz (.ptr tb [] 0) 2=some (aQ tb false):=rfl
theorem CJ:bt T bz (.ptr tb [] 0) 3=some (aQ tb true):=rfl
theorem qN (s:Bool):aO T cJ (.ptr tb [0] 0) (.int .i64 (bI s))=some (aC tb s):=by cases s<;>rfl
theorem qM (s:Bool):aO T gQ (.ptr tb [1] 328) (.int .i64 (bI s))=some (aS tb s):=by cases s<;>rfl
section
variable {n:Nat} (h:pw G tb t l w) (k:kK t n)
include h k
theorem pw.szl:[ah.agg [(t.c false).av,(t.c true).av],.agg [(t.f false).s.av (l false).o (l false).p (l false).h,(t.f true).s.av (l true).o (l true).p (l true).h],w false,w true].map Esc.sz=[328,230,1,1]:=by
 simp[Esc.sz,szs,CfM.sz (k.c false),CfM.sz (k.c true),StM.sz (k.f false).ok (h.lv false),StM.sz (k.f true).ok (h.lv true),(h.lw false).1,(h.lw true).1]
theorem pw.szC:[(t.c false).av,(t.c true).av].map Esc.sz=[164,164]:=by simp[CfM.sz (k.c false),CfM.sz (k.c true)]
theorem pw.szS:[(t.f false).s.av (l false).o (l false).p (l false).h,(t.f true).s.av (l true).o (l true).p (l true).h].map Esc.sz=[115,115]:=by simp[StM.sz (k.f false).ok (h.lv false),StM.sz (k.f true).ok (h.lv true)]
theorem pw.ldC (s:Bool):ag T G bU (aC tb s)=some (t.c s).av:=by
 cases s
 ·exact ld2 h.g (h.szl k) rfl rfl (h.szC k) rfl rfl rfl kp (CfM.fits (k.c false))
 ·exact ld2 h.g (h.szl k) rfl rfl (h.szC k) rfl rfl rfl kp (CfM.fits (k.c true))
theorem pw.ldS (s:Bool):ag T G aE (aS tb s)=some ((t.f s).s.av (l s).o (l s).p (l s).h):=by
 cases s
 ·exact ld2 h.g (h.szl k) rfl rfl (h.szS k) rfl rfl rfl na (StM.fits (k.f false).ok (h.lv false))
 ·exact ld2 h.g (h.szl k) rfl rfl (h.szS k) rfl rfl rfl na (StM.fits (k.f true).ok (h.lv true))
theorem pw.ldQ (s:Bool):ag T G bR (aQ tb s)=some (w s):=by
 cases s
 ·exact ld1 h.g (h.szl k) rfl rfl gP (kF (h.lw false) rfl)
 ·exact ld1 h.g (h.szl k) rfl rfl gP (kF (h.lw true) rfl)
end
end
end Go.Esc.M
