import Derived.Test.YtkojimdacnohpaaGreatDoorLWh
import Derived.Test.YtkojimdacnohpaaGreatDoorLWc
import Derived.Test.YtkojimdacnohpaaGreatDoorLUd
import Derived.Test.YtkojimdacnohpaaGreatDoorLFb
import Derived.Test.YtkojimdacnohpaaGreatDoorLCx
set_option maxHeartbeats 4000000
set_option linter.unusedSimpArgs false
set_option linter.unusedVariables false
set_option maxRecDepth 20000
namespace Go.Esc
open Go Go.RowKit
theorem Sps.at_ {G:ak}:∀ {ps:List LP}{Fs:List (List AId)},Sps ps Fs G->∀ {i:Nat}{p:LP},ps[i]?=some p->∃ F,Fs[i]?=some F/\p.p G F
 | [],_,_,_,_,hi=>by simp at hi
 | _::_,[],h,_,_,_=>h.elim
 | q::ps,E::Fs,h,0,p,hi=>by
  simp at hi
  subst hi
  exact⟨E,rfl,h.1⟩
 | q::ps,E::Fs,h,i+1,p,hi=>by
  obtain⟨F,h1,h2⟩:=Sps.at_ h.2.2 (i:=i) (p:=p) (by simpa using hi)
  exact⟨F,by simpa using h1,h2⟩
theorem Aj {Fs:List (List AId)}{i:Nat}{F:List AId}(h:Fs[i]?=some F):∀ j∈F,j∈Fs.flatten:=fun j hj=>List.mem_flatten.2 ⟨F,List.mem_of_getElem? h,hj⟩
theorem Sps.dis {G:ak}:∀ {ps:List LP}{Fs:List (List AId)},Sps ps Fs G->∀ {i k:Nat}{F E:List AId},Fs[i]?=some F->Fs[k]?=some E->i≠k->∀ j∈F,j ∉ E
 | [],[],_,_,_,_,_,hi,_,_=>by simp at hi
 | [],_::_,h,_,_,_,_,_,_,_=>h.elim
 | _::_,[],h,_,_,_,_,_,_,_=>h.elim
 | q::ps,X::Fs,h,0,0,F,E,_,_,hne=>absurd rfl hne
 | q::ps,X::Fs,h,0,k+1,F,E,hi,hk,_=>by
  simp at hi
  subst hi
  intro j hj hm
  exact h.2.1 j hj (Aj (i:=k) (by simpa using hk) j hm)
 | q::ps,X::Fs,h,i+1,0,F,E,hi,hk,_=>by
  simp at hk
  subst hk
  intro j hj hm
  exact h.2.1 j hm (Aj (i:=i) (by simpa using hi) j hj)
 | q::ps,X::Fs,h,i+1,k+1,F,E,hi,hk,hne=>Sps.dis h.2.2 (i:=i) (k:=k) (by simpa using hi) (by simpa using hk) (by omega)
def sel {α:Type} (js:List Nat) (l:List α):List α:=js.filterMap fun j=>l[j]?
theorem Sps.pick {G:ak}{ps:List LP}{Fs:List (List AId)}(h:Sps ps Fs G):∀ {js:List Nat},js.Nodup->(∀ j∈js,j<ps.length)->Sps (sel js ps) (sel js Fs) G/\∀ x∈(sel js Fs).flatten,∃ j∈js,∃ F,Fs[j]?=some F/\x∈F
 | [],_,_=>⟨trivial,by simp[sel]⟩
 | j::js,hn,hl=>by
  obtain⟨hn1,hn2⟩:=List.nodup_cons.1 hn
  obtain⟨ih1,ih2⟩:=Sps.pick h hn2 fun k hk=>hl k (by simp[hk])
  obtain⟨p,hp⟩:∃ p,ps[j]?=some p:=⟨_,List.getElem?_eq_getElem (hl j (by simp))⟩
  obtain⟨F,hF,hpF⟩:=h.at_ hp
  have e1:sel (j::js) ps=p::sel js ps:=by simp[sel,hp]
  have e2:sel (j::js) Fs=F::sel js Fs:=by simp[sel,hF]
  rw[e1,e2]
  refine⟨⟨hpF,fun x hx hm=>?_,ih1⟩,fun x hx=>?_⟩
  ·obtain⟨k,hk,E,hE,hxE⟩:=ih2 x hm
   exact h.dis hF hE (fun e=>hn1 (e▸hk)) x hx hxE
  ·have hx:x∈F\/x∈(sel js Fs).flatten:=by simpa using hx
   rcases hx with hx|hx
   ·exact⟨j,by simp,F,hF,hx⟩
   ·obtain⟨k,hk,E,hE,hxE⟩:=ih2 x hx
    exact⟨k,by simp[hk],E,hE,hxE⟩
theorem Sps.cat {G:ak}:∀ {qs ps:List LP}{Gs Fs:List (List AId)},Sps qs Gs G->Sps ps Fs G->(∀ j∈Gs.flatten,j ∉ Fs.flatten)->Sps (qs++ps) (Gs++Fs) G
 | [],ps,[],Fs,_,h,_=>h
 | [],_,_::_,_,h,_,_=>h.elim
 | _::_,_,[],_,h,_,_=>h.elim
 | q::qs,ps,E::Gs,Fs,t,h,hd=>by
  obtain⟨t1,t2,t3⟩:=t
  refine⟨t1,fun j hj hm=>?_,Sps.cat t3 h fun j hj=>hd j (by simp only[List.flatten_cons,List.mem_append];exact .inr hj)⟩
  have hm:j∈(Gs++Fs).flatten:=hm
  rw[List.flatten_append,List.mem_append]at hm
  rcases hm with hm|hm
  ·exact t2 j hj hm
  ·exact hd j (by simp only[List.flatten_cons,List.mem_append];exact .inl hj) hm
theorem Sps.split {G:ak}:∀ {qs ps:List LP}{Fs:List (List AId)},Sps (qs++ps) Fs G->∃ Gs Es,Fs=Gs++Es/\Sps qs Gs G/\Sps ps Es G/\∀ j∈Gs.flatten,j ∉ Es.flatten
 | [],ps,Fs,h=>⟨[],Fs,rfl,trivial,h,by simp⟩
 | _::_,_,[],h=>h.elim
 | q::qs,ps,F::Fs,h=>by
  obtain⟨h1,h2,h3⟩:=h
  obtain⟨Gs,Es,rfl,k1,k2,k3⟩:=Sps.split h3
  refine⟨F::Gs,Es,rfl,⟨h1,fun j hj hm=>h2 j hj (by rw[List.flatten_append];exact List.mem_append.2 (.inl hm)),k1⟩,k2,fun j hj hm=>?_⟩
  have hj:j∈F\/j∈Gs.flatten:=by simpa using hj
  rcases hj with hj|hj
  ·exact h2 j hj (by rw[List.flatten_append];exact List.mem_append.2 (.inr hm))
  ·exact k3 j hj hm
section
variable {F0:List AId}{G0 G:ak}{ps:List LP}
theorem Sp.pick (h:Sp F0 G0 ps G) (js:List Nat) (hn:js.Nodup) (hl:∀ j∈js,j<ps.length):Sp F0 G0 (sel js ps) G:=by
 obtain⟨Fs,h1,h2⟩:=h
 obtain⟨k1,k2⟩:=h1.pick hn hl
 refine⟨_,k1,h2.ro,h2.others,fun j hj=>h2.row j ?_⟩
 obtain⟨k,_,F,hF,hm⟩:=k2 j hj
 exact Aj hF j hm
end
end Go.Esc
namespace Go.Esc.M
open Go Go.Esc
section
variable {F0:List AId}{G0 G:ak}{ps:List LP}{Q:ah->ak->Prop}{tb:AId}{t:me}{l:Bool->Ls}{w:Bool->ah}
theorem Sp.BS (h:Sp F0 G0 (jP tb t::ps) G):∃ l w,Sp F0 G0 (nZ tb t l w++ps) G:=by
 obtain⟨Fs,h1,h2⟩:=h
 cases Fs with
 | nil=>exact h1.elim
 | cons F Fs=>
  obtain⟨⟨l,w,Es,hE,rfl⟩,h3,h4⟩:=h1
  refine⟨l,w,Es++Fs,Sps.cat hE h4 h3,h2.ro,h2.others,fun j hj=>h2.row j ?_⟩
  rw[List.flatten_append]at hj
  simpa using hj
theorem Sp.qW (h:Sp F0 G0 (nZ tb t l w++ps) G):Sp F0 G0 (jP tb t::ps) G:=by
 obtain⟨Fs,h1,h2⟩:=h
 obtain⟨Gs,Es,rfl,k1,k2,k3⟩:=h1.split
 refine⟨Gs.flatten::Es,⟨⟨l,w,Gs,k1,rfl⟩,k3,k2⟩,h2.ro,h2.others,fun j hj=>h2.row j ?_⟩
 rw[List.flatten_append]
 simpa using hj
theorem Sp.DQ (s:Sp F0 G0 (nZ tb t l w++ps) G):pw G tb t l w:=by
 have a1:=bm.own (i:=1) s rfl
 have a2:=bm.own (i:=2) s rfl
 have a3:=bm.own (i:=3) s rfl
 have a4:=bm.own (i:=4) s rfl
 have a5:=bm.own (i:=5) s rfl
 have a6:=bm.own (i:=6) s rfl
 have a7:=QuL.qu (i:=7) s rfl
 have a8:=QuL.qu (i:=8) s rfl
 refine⟨au.own (i:=0) s rfl,fun s=>?_,fun s=>?_,fun s=>?_,fun s=>?_,fun s=>?_,fun s=>?_⟩
 ·cases s
  ·exact⟨a1.leaf,a2.leaf,a3.leaf⟩
  ·exact⟨a4.leaf,a5.leaf,a6.leaf⟩
 ·cases s
  ·exact a7.leaf
  ·exact a8.leaf
 ·cases s
  ·exact Own.nj a1
  ·exact Own.nj a4
 ·cases s
  ·exact Own.nj a2
  ·exact Own.nj a5
 ·cases s
  ·exact Own.nj a3
  ·exact Own.nj a6
 ·cases s
  ·exact a7
  ·exact a8
theorem jP.at_ {F:List AId}(h:(jP tb t).p G F):∃ l w,pw G tb t l w:=by
 obtain⟨l,w,s⟩:=jP.open h
 exact⟨l,w,Sp.DQ (ps:=[]) (by simpa using s)⟩
def kq (t:me) (s:Bool) (f:StF):me:=⟨t.c,mg t.f s f,t.q⟩
def oW (t:me) (s:Bool) (q:List cr):me:=⟨t.c,t.f,mg t.q s q⟩
section
variable {n:Nat} (k:kK t n)
include k
theorem DT (h:Sp F0 G0 (nZ tb t l w++ps) G) (s:Bool) {x:ah}(hx:bw x) {K:ak->Prop}
  (hK:∀ G',Sp F0 G0 (au tb (oU t l (mg w s x))::((nZ tb t l w).drop 1++ps)) G'->K G'):wg (aF T G bR (aQ tb s) x) K:=by
 have a:=Sp.DQ h
 cases s
 ·exact fg (st1 a.g (a.szl k) rfl rfl gP (kF hx rfl) (by rw[(a.lw false).1,hx.1]) hx.2.2) (hK _ (Sp.setRow (j:=0) h rfl (oU t l (mg w false x))))
 ·exact fg (st1 a.g (a.szl k) rfl rfl gP (kF hx rfl) (by rw[(a.lw true).1,hx.1]) hx.2.2) (hK _ (Sp.setRow (j:=0) h rfl (oU t l (mg w true x))))
theorem DS (h:Sp F0 G0 (nZ tb t l w++ps) G) (s:Bool) {f:StF}(hf:f.s.ok) {x:Ls}(hx:x.lv) {K:ak->Prop}
  (hK:∀ G',Sp F0 G0 (au tb (oU (kq t s f) (mg l s x) w)::((nZ tb t l w).drop 1++ps)) G'->K G'):wg (aF T G aE (aS tb s) (f.s.av x.o x.p x.h)) K:=by
 have a:=Sp.DQ h
 cases s
 ·exact fg (st2 a.g (a.szl k) rfl rfl (a.szS k) rfl rfl rfl na (StM.fits hf hx) (by rw[StM.sz (k.f false).ok (a.lv false),StM.sz hf hx]) (StM.okv hx)) (hK _ (Sp.setRow (j:=0) h rfl (oU (kq t false f) (mg l false x) w)))
 ·exact fg (st2 a.g (a.szl k) rfl rfl (a.szS k) rfl rfl rfl na (StM.fits hf hx) (by rw[StM.sz (k.f true).ok (a.lv true),StM.sz hf hx]) (StM.okv hx)) (hK _ (Sp.setRow (j:=0) h rfl (oU (kq t true f) (mg l true x) w)))
end
theorem DR {s:Bool}{f:StF}{x:Ls}{i j m:Nat}{xs:List Nat}(h:Sp F0 G0 (au tb (oU (kq t s f) (mg l s x) w)::((nZ tb t l w).drop 1++ps)) G) (ho:ps[i]?=some (bm 36 x.o (f.o.map aL.av))) (hp:ps[j]?=some (bm 36 x.p (f.p.map aL.av))) (hh:ps[m]?=some (bm 34 x.h (f.h.map b6.av)))
  (hn:(i::j::m::xs).Nodup) (hl:∀ y∈xs,y<ps.length):Sp F0 G0 (jP tb (kq t s f)::sel xs ps) G:=by
 have li:=(List.getElem?_eq_some_iff.1 ho).1
 have lj:=(List.getElem?_eq_some_iff.1 hp).1
 have lm:=(List.getElem?_eq_some_iff.1 hh).1
 have hlen:(au tb (oU (kq t s f) (mg l s x) w)::((nZ tb t l w).drop 1++ps)).length=9+ps.length:=by simp;omega
 have at9:∀ y,(au tb (oU (kq t s f) (mg l s x) w)::((nZ tb t l w).drop 1++ps))[9+y]?=ps[y]?:=by
  intro y
  rw[show 9+y=(8+y)+1 by omega,List.getElem?_cons_succ,List.getElem?_append_right (by simp),]
  simp
 obtain⟨hn1,hn2⟩:=List.nodup_cons.1 hn
 obtain⟨hn3,hn4⟩:=List.nodup_cons.1 hn2
 obtain⟨hn5,hn6⟩:=List.nodup_cons.1 hn4
 simp only[List.mem_cons,not_or]at hn1 hn3
 have hsel:sel (xs.map (9+·)) (au tb (oU (kq t s f) (mg l s x) w)::((nZ tb t l w).drop 1++ps))=sel xs ps:=by
  unfold sel
  rw[List.filterMap_map]
  congr 1
  funext y
  exact at9 y
 have hnx:(xs.map (9+·)).Nodup:=by
  unfold List.Nodup
  rw[List.pairwise_map]
  exact List.Pairwise.imp (fun h e=>h (by omega)) hn6
 have hx9:∀ y∈xs.map (9+·),9≤y/\y<9+ps.length/\y≠9+i/\y≠9+j/\y≠9+m:=by
  intro y hy
  obtain⟨z,hz,rfl⟩:=List.mem_map.1 hy
  have:=hl z hz
  refine⟨by omega,by omega,fun e=>?_,fun e=>?_,fun e=>?_⟩
  ·exact hn1.2.2 (by rwa [show i=z by omega])
  ·exact hn3.2 (by rwa [show j=z by omega])
  ·exact hn5 (by rwa [show m=z by omega])
 cases s
 ·have h2:=Sp.pick h (0::(9+i)::(9+j)::(9+m)::4::5::6::7::8::xs.map (9+·)) (by
   simp only[List.nodup_cons,List.mem_cons,not_or]
   refine⟨⟨by omega,by omega,by omega,by omega,by omega,by omega,by omega,by omega,fun hy=>?_⟩,⟨by omega,by omega,by omega,by omega,by omega,by omega,by omega,fun hy=>?_⟩,⟨by omega,by omega,by omega,by omega,by omega,by omega,fun hy=>?_⟩,⟨by omega,by omega,by omega,by omega,by omega,fun hy=>?_⟩,⟨by omega,by omega,by omega,by omega,fun hy=>?_⟩,⟨by omega,by omega,by omega,fun hy=>?_⟩,⟨by omega,by omega,fun hy=>?_⟩,⟨by omega,fun hy=>?_⟩,⟨fun hy=>?_,hnx⟩⟩<;>(have:=hx9 _ hy;omega)) (by
   intro y hy
   rw[hlen]
   simp only[List.mem_cons]at hy
   rcases hy with rfl|rfl|rfl|rfl|rfl|rfl|rfl|rfl|rfl|hy<;>first|omega|(have:=hx9 _ hy;omega))
  refine Sp.qW (l:=mg l false x) (w:=w) ?_
  have e:sel (0::(9+i)::(9+j)::(9+m)::4::5::6::7::8::xs.map (9+·)) (au tb (oU (kq t false f) (mg l false x) w)::((nZ tb t l w).drop 1++ps))=nZ tb (kq t false f) (mg l false x) w++sel xs ps:=by
   rw[<- hsel]
   unfold sel
   simp only[List.filterMap_cons,at9,ho,hp,hh]
   rfl
  rw[<- e]
  exact h2
 ·have h2:=Sp.pick h (0::1::2::3::(9+i)::(9+j)::(9+m)::7::8::xs.map (9+·)) (by
   simp only[List.nodup_cons,List.mem_cons,not_or]
   refine⟨⟨by omega,by omega,by omega,by omega,by omega,by omega,by omega,by omega,fun hy=>?_⟩,⟨by omega,by omega,by omega,by omega,by omega,by omega,by omega,fun hy=>?_⟩,⟨by omega,by omega,by omega,by omega,by omega,by omega,fun hy=>?_⟩,⟨by omega,by omega,by omega,by omega,by omega,fun hy=>?_⟩,⟨by omega,by omega,by omega,by omega,fun hy=>?_⟩,⟨by omega,by omega,by omega,fun hy=>?_⟩,⟨by omega,by omega,fun hy=>?_⟩,⟨by omega,fun hy=>?_⟩,⟨fun hy=>?_,hnx⟩⟩<;>(have:=hx9 _ hy;omega)) (by
   intro y hy
   rw[hlen]
   simp only[List.mem_cons]at hy
   rcases hy with rfl|rfl|rfl|rfl|rfl|rfl|rfl|rfl|rfl|hy<;>first|omega|(have:=hx9 _ hy;omega))
  refine Sp.qW (l:=mg l true x) (w:=w) ?_
  have e:sel (0::1::2::3::(9+i)::(9+j)::(9+m)::7::8::xs.map (9+·)) (au tb (oU (kq t true f) (mg l true x) w)::((nZ tb t l w).drop 1++ps))=nZ tb (kq t true f) (mg l true x) w++sel xs ps:=by
   rw[<- hsel]
   unfold sel
   simp only[List.filterMap_cons,at9,ho,hp,hh]
   rfl
  rw[<- e]
  exact h2
theorem sT {n:Nat}(k:kK t n) {s:Bool}{f:StF}(hf:iY f):kK (kq t s f) n:=
 ⟨k.c,fun r=>by
  by_cases h:r=s
  ·subst h;show iY (mg t.f r f r);rw[ox];exact hf
  ·show iY (mg t.f s f r);rw[qF _ _ h];exact k.f r,k.q,k.n⟩
theorem vD {n m:Nat}(k:kK t n) (hnm:n≤m) {s:Bool}{q:List cr}(hq:∀ x∈q,x.ok) (hl:q.length≤m):kK (oW t s q) m:=
 ⟨k.c,k.f,fun r=>by
  by_cases h:r=s
  ·subst h;show ∀ x∈mg t.q r q r,x.ok;rw[ox];exact hq
  ·show ∀ x∈mg t.q s q r,x.ok;rw[qF _ _ h];exact k.q r,fun r=>by
  by_cases h:r=s
  ·subst h;show (mg t.q r q r).length≤m;rw[ox];exact hl
  ·show (mg t.q s q r).length≤m;rw[qF _ _ h];exact Nat.le_trans (k.n r) hnm⟩
theorem ec.use {u:aL}(h:u.ok) (hQ:∀ G',Ch [] G [] G'->Q (GL u).av G'):al P ec.n [u.av] G Q:=by
 refine ec.sound ?_
 unfold ec.S
 rw[EW]
 intro i1 f1
 have s1:=(Sp.nil G).row f1 u.av
 intro i3 f3
 have s3:=s1.row f3 cr.zero.av
 obtain⟨u0,u1,u2,u3,u4,_⟩:=bF (i:=1) s3 rfl h
 refine ae u0 ?_
 refine ae u1 ?_
 refine ae u2 ?_
 refine ae u3 ?_
 refine ae u4 ?_
 refine ae (uo (r:=GL u) (fun p hp=>?_) rfl) ?_
 ·simp only[List.mem_cons,List.not_mem_nil,or_false]at hp
  rcases hp with rfl|rfl|rfl|rfl|rfl
  ·rfl
  ·rfl
  ·rfl
  ·exact oJ h.hash
  ·rfl
 refine nK (i:=0) s3 rfl cr.bq (vY h) fun G11 s11=>?_
 refine ae (cj eQ (au.own (i:=0) s11 rfl) (cr.fits (vY h))) ?_
 exact hQ _ s11.ch
theorem dd.use {m:cr}(h:m.ok) (hQ:∀ G',Ch [] G [] G'->Q (Bw m).av G'):al P dd.n [m.av] G Q:=by
 refine dd.sound ?_
 unfold dd.S
 rw[Dq]
 intro i1 f1
 have s1:=(Sp.nil G).row f1 m.av
 intro i3 f3
 have s3:=s1.row f3 aL.zero.av
 obtain⟨m0,m1,m2,_,_,m5,_,m7,_⟩:=gx (i:=1) s3 rfl h
 refine ae m0 ?_
 refine ae m1 ?_
 refine ae m2 ?_
 refine ae m5 ?_
 refine ae m7 ?_
 refine ae ((kO (zs:=aL.zero.cs) dE rfl rfl rfl (pf rfl) fun p hp=>?_).trans (rfl:_=some (Bw m).av)) ?_
 ·simp only[List.mem_cons,List.not_mem_nil,or_false]at hp
  rcases hp with rfl|rfl|rfl|rfl|rfl
  ·rfl
  ·rfl
  ·rfl
  ·exact oJ h.hash
  ·rfl
 refine jY (i:=0) s3 rfl aL.bq (vF h) fun G11 s11=>?_
 refine ae (bF (i:=0) s11 rfl (vF h)).2.2.2.2.2 ?_
 exact hQ _ s11.ch
theorem LV {s:Bool}{t:TypeId}:az T .eql t (.int .i64 (bI s)) (.int .i64 0)=some (.bool (!s)):=by cases s<;>rfl
theorem LU {s:Bool}{t:TypeId}:az T .eql t (.int .i64 (bI s)) (.int .i64 1)=some (.bool s):=by cases s<;>rfl
theorem cl.use {F:List AId}{n:Nat}{s:Bool}{m:cr}(h:(jP tb t).p G F) (k:kK t n) (hn:n≤100000000) (hm:m.ok) (hQ:∀ F' G',(jP tb (oW t (!s) (t.q (!s)++[m]))).p G' F'->Ch F G F' G'->Q (.tuple []) G') :
  al P cl.n [.ptr tb [] 0,.int .i64 (bI s),m.av] G Q:=by
 refine cl.sound ?_
 unfold cl.S
 intro i1 f1
 have s1:=(Sp.nil G).row f1 m.av
 obtain⟨l,w,s2⟩:=Sp.BS (Sp.with h s1)
 have a:=Sp.DQ s2
 have hl:∀ r,(t.q r).length≤100000000:=fun r=>Nat.le_trans (k.n r) hn
 have fin:∀ (w':Bool->ah) (G':ak),Sp F G (nZ tb (oW t (!s) (t.q (!s)++[m])) l w'++[au i1 m.av]) G'->Q (.tuple []) G':=by
  intro w' G' sp
  have s5:=Sp.qW sp
  have s6:Sp F G [jP tb (oW t (!s) (t.q (!s)++[m]))] G':=s5.erase 1
  obtain⟨F',h1,h2⟩:=s6.out
  exact hQ F' G' h1 h2
 rw[LV,aa]
 cases s
 ·rw[Bool.not_false,aN]
  refine ae jm ?_
  refine ae CJ ?_
  refine ae (a.ldQ k true) ?_
  refine ae (gx (i:=9) s2 rfl hm).2.2.2.2.2.2.2.2 ?_
  refine K9 (T:=T) (ts:=bR) (e:=aW) (si:=iJ) (ie:=il) (i:=8) gP rfl eQ rfl (by decide) s2 rfl (cr.sz hm) (cr.okv m) (by decide) (by rw[List.length_map];have:=hl true;simp only[il];omega) fun x G11 s11=>?_
  refine ae jm ?_
  refine ae CJ ?_
  have hx:=(QuL.qu (i:=8) s11 rfl).leaf
  have g11:=au.own (i:=0) s11 rfl
  refine fg (st1 g11 (a.szl k) rfl rfl gP (kF hx rfl) (by rw[(a.lw true).1,hx.1]) hx.2.2) ?_
  have s14:=Sp.setRow (j:=0) s11 rfl (oU t l (mg w true x))
  refine fin (mg w true x) _ ?_
  have e:(t.q true).map cr.av++[m.av]=(t.q true++[m]).map cr.av:=by rw[List.map_append];rfl
  rw[e]at s14
  exact s14
 ·rw[Bool.not_true,aK]
  refine ae jm ?_
  refine ae CK ?_
  refine ae (a.ldQ k false) ?_
  refine ae (gx (i:=9) s2 rfl hm).2.2.2.2.2.2.2.2 ?_
  refine K9 (T:=T) (ts:=bR) (e:=aW) (si:=iJ) (ie:=il) (i:=7) gP rfl eQ rfl (by decide) s2 rfl (cr.sz hm) (cr.okv m) (by decide) (by rw[List.length_map];have:=hl false;simp only[il];omega) fun x G11 s11=>?_
  refine ae jm ?_
  refine ae CK ?_
  have hx:=(QuL.qu (i:=7) s11 rfl).leaf
  have g11:=au.own (i:=0) s11 rfl
  refine fg (st1 g11 (a.szl k) rfl rfl gP (kF hx rfl) (by rw[(a.lw false).1,hx.1]) hx.2.2) ?_
  have s14:=Sp.setRow (j:=0) s11 rfl (oU t l (mg w false x))
  refine fin (mg w false x) _ ?_
  have e:(t.q false).map cr.av++[m.av]=(t.q false++[m]).map cr.av:=by rw[List.map_append];rfl
  rw[e]at s14
  exact s14
end
end Go.Esc.M
namespace Go.Esc
open Go Go.RowKit
section
variable {F0:List AId}{G0 G:ak}{ps:List LP}
theorem u9 {G':ak}{qs:List LP}(h:Sp F0 G0 ps G) (t:Sp [] G qs G'):Sp F0 G0 (qs++ps) G':=by
 obtain⟨Fs,h1,h2⟩:=h
 obtain⟨Gs,t1,t2⟩:=t
 refine⟨Gs++Fs,Sps.cat t1 (h1.same fun j hj=>t2.same (E:=Fs.flatten) h1.rows (by simp) j hj) fun j hj hm=>?_,h2.trans ?_⟩
 ·rcases t2.row j hj with h'|h'
  ·simp at h'
  ·have:=h1.rows j hm
   rw[h']at this;cases this
 ·have:=t2.more (E:=Fs.flatten)
  simpa using this
end
end Go.Esc
namespace Go.Esc.M
open Go Go.Esc
section
variable {T:Tbl}{G:ak}{id:AId}{cs ds es:List ah}{ss ss2 ss3:List Nat}{k j m o o2 o3 oo:Nat}{c u:ah}{t:TypeId}{ti:TI}
theorem ld3 (hg:G id=some (.own (.agg cs))) (hs:cs.map sz=ss) (ho:(ss.take k).sum=o) (hc:cs[k]?=some (.agg ds)) (hs2:ds.map sz=ss2) (ho2:(ss2.take j).sum=o2) (hc2:ds[j]?=some (.agg es)) (hs3:es.map sz=ss3) (ho3:(ss3.take m).sum=o3) (hc3:es[m]?=some c)
  (hoo:o+(o2+o3)=oo) (ht:T t=some ti) (hf:dD ti c=true):ag T G t (.ptr id [k,j,m] oo)=some c:=by
 subst hoo
 have e1:=pA hs ho
 have e2:=pA hs2 ho2
 have e3:=pA hs3 ho3
 simp[ag,nI,hg,mQ,sub,e1,e2,e3,hc,hc2,hc3,ht,hf]
theorem st3 (hg:G id=some (.own (.agg cs))) (hs:cs.map sz=ss) (ho:(ss.take k).sum=o) (hc:cs[k]?=some (.agg ds)) (hs2:ds.map sz=ss2) (ho2:(ss2.take j).sum=o2) (hc2:ds[j]?=some (.agg es)) (hs3:es.map sz=ss3) (ho3:(ss3.take m).sum=o3) (hc3:es[m]?=some u)
  (hoo:o+(o2+o3)=oo) (ht:T t=some ti) (hf:dD ti c=true) (hsz:sz u=sz c) (hok:okv c=true) :
  aF T G t (.ptr id [k,j,m] oo) c=some (G.upd id (.own (.agg (cs.set k (.agg (ds.set j (.agg (es.set m c)))))))):=by
 subst hoo
 have e1:=pA hs ho
 have e2:=pA hs2 ho2
 have e3:=pA hs3 ho3
 simp[aF,hg,sub,e1,e2,e3,hc,hc2,hc3,ht,hf,hsz,hok,putAt]
end
def sL (c:CfM) (f f':StF) (r:RcM):List cr:=
 if r.kind=1 then [GL r.upd] else if r.kind=2 then [tI c f'] else if r.kind=3 then [qC c f.s.loc] else []
def uD (t:me) (s:Bool) (r:RcM) (f':StF):me:=oW (kq t s f') (!s) (t.q (!s)++sL (t.c s) (t.f s) f' r)
def yE (m:cr) (o:jj):cr:={ m with index:=IntKind.i64.wrap (m.index+o.index),hash:=if o.note=[98,101,110,100] then o.hash else m.hash }
theorem wE {m:cr}{o:jj}(h:m.ok) (ho:o.ok):(yE m o).ok:=by
 refine⟨h.kind,h.id,h.amount,LM _,h.next,?_,h.secret,h.note⟩
 show (if o.note=[98,101,110,100] then o.hash else m.hash).length=32
 split
 ·exact ho.hash
 ·exact h.hash
theorem EZ (t:me) (s:Bool):oW t s (t.q s)=t:=by
 have:mg t.q s (t.q s)=t.q:=by
  funext r
  by_cases h:r=s
  ·subst h;rw[ox]
  ·rw[qF _ _ h]
 show (⟨t.c,t.f,mg t.q s (t.q s)⟩:me)=t
 rw[this]
theorem I0 {c:CfM}{f f':StF}{r:RcM}(hc:c.ok) (hr:r.ok) (h:f.s.ok) (h':f'.s.ok):∀ m∈sL c f f' r,m.ok:=by
 intro m hm
 unfold sL at hm
 split at hm
 ·rw[List.mem_singleton.1 hm];exact vY hr.upd
 split at hm
 ·rw[List.mem_singleton.1 hm];exact xT h'
 split at hm
 ·rw[List.mem_singleton.1 hm];exact ve hc h.loc
 ·cases hm
theorem xn (c:CfM) (f f':StF) (r:RcM):(sL c f f' r).length≤1:=by
 unfold sL
 split
 ·simp
 split
 ·simp
 split<;>simp
theorem CR {t:me}{n:Nat}(k:kK t n) {s:Bool}{r:RcM}{f':StF}(hr:r.ok) (I:iY f'):kK (uD t s r f') (n+1):=by
 refine vD (sT k I) (by omega) (fun m hm=>?_) ?_
 ·rcases List.mem_append.1 hm with hm|hm
  ·exact k.q _ m hm
  ·exact I0 (k.c s) hr (k.f s).ok I.ok m hm
 ·rw[List.length_append]
  have:=k.n (!s)
  have:=xn (t.c s) (t.f s) f' r
  omega
section
variable {F0:List AId}{G0 G:ak}{ps:List LP}{Q:ah->ak->Prop}{tb:AId}{t:me}{l:Bool->Ls}{w:Bool->ah}
theorem KA {v:ah}{l:List cr}{j:Nat}{u:cr}(h:ff 70 G v (l.map cr.av)) (hj:l[j]?=some u):∃ a,aO T bR v (.int .i64 (j:Int))=some a/\ag T G aW a=some u.av:=
 h.at_ (k:=.i64) (i:=iJ) (ie:=il) (T:=T) (t:=bR) (e:=aW) gP rfl eQ (by rw[List.getElem?_map,hj];rfl) rfl
theorem Jf {v:ah}{l:List cr}(h:ff 70 G v (l.map cr.av)):fU T G bR v=some (.int .i64 (l.length:Nat)):=by
 rw[h.len (i:=iJ) gP rfl,List.length_map]
theorem Kh (s:Bool):bt T aE (aS tb s) 6=some (.ptr tb [1,bN s,6] (328+(bN s*115+6))):=by cases s<;>rfl
theorem pw.Mo {n:Nat}(h:pw G tb t l w) (k:kK t n) (s:Bool):ag T G aq (.ptr tb [1,bN s,6] (328+(bN s*115+6)))=some (.int .i64 (t.f s).s.loc):=by
 cases s
 ·exact ld3 h.g (h.szl k) rfl rfl (h.szS k) rfl rfl (StM.szl (k.f false).ok (h.lv false)) rfl rfl rfl cu rfl
 ·exact ld3 h.g (h.szl k) rfl rfl (h.szS k) rfl rfl (StM.szl (k.f true).ok (h.lv true)) rfl rfl rfl cu rfl
theorem II {l':Bool->Ls}{w':Bool->ah}(h:oU t l w=oU t l' w'):w=w':=by
 unfold oU at h
 injection h with h
 injection h with _ h
 injection h with _ h
 injection h with h1 h
 injection h with h2 _
 funext s
 cases s
 ·exact h1
 ·exact h2
theorem df.use {F:List AId}{n:Nat}{s:Bool}{o:jj}(h:(jP tb t).p G F) (k:kK t n) (hn:n≤99999999) (ho:o.ok) (hQ0:t.q s=[]->∀ G',Ch [] G [] G'->Q (.tuple [cr.zero.av,.bool false]) G')
  (hQ1:∀ m ms,t.q s=m::ms->∀ F' G',(jP tb (oW t s ms)).p G' F'->Ch F G F' G'->Q (.tuple [(yE m o).av,.bool true]) G') :
  al P df.n [.ptr tb [] 0,.int .i64 (bI s),o.av] G Q:=by
 refine df.sound ?_
 unfold df.S
 obtain⟨l,w,a⟩:=jP.at_ h
 rw[EW]
 intro i1 f1
 have s1:=(Sp.nil G).row f1 o.av
 intro i3 f3
 have s3:=s1.row f3 cr.zero.av
 revert s3
 generalize ak.upd _ i3 _=G4
 intro s3
 rw[<- EW]
 have a4:=a.mv s3.ch
 refine ae jm ?_
 refine ae CK ?_
 refine ae (a4.ldQ k false) ?_
 rw[LU,aa]
 intro J53
 have go:J53 (w s) G4:=by
  simp -zeta only [J53]
  have hq:=a4.q s
  have hls:=k.n s
  refine ae (Jf hq.is) ?_
  rw[bB,aa,aI]
  refine⟨fun h0=>?_,fun h0=>?_⟩
  ·have he:t.q s=[]:=List.length_eq_zero_iff.1 (by omega)
   refine ae (v:=cr.zero.av) rfl ?_
   refine nK (i:=0) s3 rfl cr.bq cr.bq fun G17 s17=>?_
   refine ae (cj eQ (au.own (i:=0) s17 rfl) (cr.fits cr.bq)) ?_
   exact hQ0 he _ s17.ch
  ·obtain⟨m,ms,he⟩:∃ m ms,t.q s=m::ms:=by
    cases hc:t.q s with
    | nil=>rw[hc]at h0;exact absurd rfl h0
    | cons m ms=>exact⟨m,ms,rfl⟩
   have hm:m.ok:=k.q s m (by rw[he];simp)
   obtain⟨p,p1,p2⟩:=KA (j:=0) (u:=m) hq.is (by rw[he];rfl)
   refine ae p1 ?_
   refine ae p2 ?_
   refine Kz s3 hm fun i21 G23 s23=>?_
   have s23:Sp [] G [au i21 m.av,au i3 cr.zero.av,au i1 o.av] G23:=s23
   rw[aa]
   have hQ1:=hQ1 m ms he
   intro J52
   have last:∀ G33,Sp F G [jP tb (oW t s ms),au i21 m.av,au i3 cr.zero.av,au i1 o.av] G33->J52 G33:=by
    intro G33 S33
    simp -zeta only [J52]
    refine ae (gx (i:=1) S33 rfl hm).2.2.2.1 ?_
    refine ae (Oq.ni (au.own (i:=3) S33 rfl) ho) ?_
    rw[bg,aa]
    refine HM _ (i:=1) S33 rfl fun G37 S37=>?_
    have hm1:({ m with index:=IntKind.i64.wrap (m.index+o.index) }:cr).ok:=⟨hm.kind,hm.id,hm.amount,LM _,hm.next,hm.hash,hm.secret,hm.note⟩
    have fin:∀ {G2:ak}{x:cr},Sp F G [jP tb (oW t s ms),au i21 x.av,au i3 cr.zero.av,au i1 o.av] G2->x=yE m o->wv (ag T G2 aW (.ptr i21 [] 0)) fun v46=>wg (aF T G2 aW (.ptr i3 [] 0) v46) fun G47=>wv (ag T G47 aW (.ptr i3 [] 0)) fun v48=>Q (.tuple [v48,.bool true]) G47:=by
     intro G2 x S2 hx
     have hxo:x.ok:=by rw[hx];exact wE hm ho
     refine ae (gx (i:=1) S2 rfl hxo).2.2.2.2.2.2.2.2 ?_
     refine nK (i:=2) S2 rfl cr.bq hxo fun G47 S47=>?_
     refine ae (cj eQ (au.own (i:=2) S47 rfl) (cr.fits hxo)) ?_
     rw[hx]
     have S48:Sp F G [jP tb (oW t s ms)] G47:=((S47.erase 1).erase 1).erase 1
     obtain⟨F',q1,q2⟩:=S48.out
     exact hQ1 F' G47 q1 q2
    refine ae (Oq.zc (au.own (i:=3) S37 rfl) ho) ?_
    rw[pL,aa,aI]
    refine⟨fun hb=>?_,fun hb=>?_⟩
    ·refine ae (Oq.sk (au.own (i:=3) S37 rfl) ho) ?_
     refine Jg ho.hash hm1 (i:=1) S37 rfl fun G41 S41=>?_
     exact fin S41 (by unfold yE;rw[if_pos hb])
    ·exact fin S37 (by unfold yE;rw[if_neg hb])
   obtain⟨l',w',S23⟩:=Sp.BS (Sp.with h s23)
   have ew:w=w':=by
    have g1:=(a.mv s23.ch).g
    have g2:=(Sp.DQ S23).g
    rw[g1]at g2
    injection g2 with g2
    injection g2 with g2
    exact II g2
   subst ew
   have hq23:=(Sp.DQ S23).q s
   rw[he]at hq23
   obtain⟨x,x1,x2,x3⟩:=Qu.rest (T:=T) (ts:=bR) (e:=aW) (si:=iJ) (ie:=il) (vs:=ms.map cr.av) gP rfl eQ hq23
   have lx:=x2.leaf
   cases s
   ·rw[aK]
    refine ae x1 ?_
    refine ae jm ?_
    refine ae CK ?_
    refine DT k S23 false lx fun G28 S28=>?_
    refine last _ ?_
    have S29:=S28.call (i:=7) rfl (QuL 70 x (ms.map cr.av)) (X:=Sp F G (au tb (oU t l' (mg w false x))::(((nZ tb t l' w).drop 1++[au i21 m.av,au i3 cr.zero.av,au i1 o.av]).set 6 (QuL 70 x (ms.map cr.av)))) G28) fun F1 hF1 kk=>by
     obtain⟨qq,rfl⟩:=hF1
     rw[he]at qq
     obtain⟨y,y1,y2,y3⟩:=Qu.rest (T:=T) (ts:=bR) (e:=aW) (si:=iJ) (ie:=il) (vs:=ms.map cr.av) gP rfl eQ qq
     rw[x1]at y1
     injection y1 with y1
     subst y1
     exact kk _ G28 ⟨y2,rfl⟩ (by rw[y3];exact Ch.refl _ _)
    exact Sp.qW (t:=oW t false ms) (l:=l') (w:=mg w false x) S29
   ·rw[aN]
    refine ae x1 ?_
    refine ae jm ?_
    refine ae CJ ?_
    refine DT k S23 true lx fun G28 S28=>?_
    refine last _ ?_
    have S29:=S28.call (i:=8) rfl (QuL 70 x (ms.map cr.av)) (X:=Sp F G (au tb (oU t l' (mg w true x))::(((nZ tb t l' w).drop 1++[au i21 m.av,au i3 cr.zero.av,au i1 o.av]).set 7 (QuL 70 x (ms.map cr.av)))) G28) fun F1 hF1 kk=>by
     obtain⟨qq,rfl⟩:=hF1
     rw[he]at qq
     obtain⟨y,y1,y2,y3⟩:=Qu.rest (T:=T) (ts:=bR) (e:=aW) (si:=iJ) (ie:=il) (vs:=ms.map cr.av) gP rfl eQ qq
     rw[x1]at y1
     injection y1 with y1
     subst y1
     exact kk _ G28 ⟨y2,rfl⟩ (by rw[y3];exact Ch.refl _ _)
    exact Sp.qW (t:=oW t true ms) (l:=l') (w:=mg w true x) S29
 cases s
 ·rw[aK]
  exact go
 ·rw[aN]
  refine ae jm ?_
  refine ae CJ ?_
  refine ae (a4.ldQ k true) ?_
  exact go
end
end Go.Esc.M
namespace Go.Esc.M
open Go Go.Esc
def zg:StF:=⟨StM.zero,[],[],[]⟩
theorem iY.zero:iY zg:=by
 have nn:∀ {X:List aL},o7 [] X:=fun {X} j u hj=>by simp at hj
 have e0:∀ {a:Int}{n m:Nat},SB a [] [] n m=a:=by intro a n m;simp[SB,gG]
 have on:∀ {a:Int},kX [] [] a≤483:=by intro a;simp[kX,ml]
 have z0:(0:Int)≤0:=by decide
 have z1:(0:Int)≤281474976710654:=by decide
 have z2:(0:Int)≤1152921504606846976:=by decide
 refine⟨StM.bq,by simp[zg],by simp[zg],by simp[zg],by simp[zg],z0,z0,z0,z0,z0,z0,z0,z0,nn,nn,?_,?_,on,on,z0,z0,rfl,z2,.inl rfl,z0,z1,z0,.inl rfl,z1⟩
 ·show 0≤SB 0 [] [] 0 0;rw[e0];omega
 ·show 0≤SB 0 [] [] 0 0;rw[e0];omega
def AL (d:DlM) (s:Bool):CfM:=bif s then FV d else FW d
theorem Db {d:DlM}(h:d.ok) (s:Bool):(AL d s).ok:=by
 cases s
 ·exact Dd h
 ·exact Dc h
def tc (c:CfM):StF:=⟨(mm c).1,[],[],[]⟩
def EI (c:Bool->CfM):me:=⟨c,fun _=>zg,fun _=>[]⟩
def LS (c:Bool->CfM):me:=⟨c,fun s=>tc (c s),fun _=>[]⟩
def Ig (d:DlM):me:=LS (AL d)
theorem Hk {c:Bool->CfM}(h:∀ s,(c s).ok):kK (EI c) 0:={ c:=h,f:=fun _=>iY.zero,q:=fun s m hm=>absurd hm List.not_mem_nil,n:=fun s=>Nat.le_refl 0 }
theorem KV {c:Bool->CfM}(h:∀ s,(c s).ok) (hb:∀ s,¬ nF (c s)):kK (LS c) 0:={ c:=h,f:=fun s=>iY.start (h s) (hb s),q:=fun s m hm=>absurd hm List.not_mem_nil,n:=fun s=>Nat.le_refl 0 }
theorem KU {d:DlM}(h:d.ok) (hb:∀ s,¬ nF (AL d s)):kK (Ig d) 0:=KV (Db h) hb
theorem KW (c:Bool->CfM):kq (kq (EI c) false (tc (c false))) true (tc (c true))=LS c:=by
 show (⟨c,mg (mg (fun _=>zg) false (tc (c false))) true (tc (c true)),fun _=>[]⟩:me)=⟨c,fun s=>tc (c s),fun _=>[]⟩
 congr 1
 funext s
 cases s<;>rfl
def GK:Bool->Ls:=fun _=>⟨.nilSlice,.nilSlice,.nilSlice⟩
def Kw:Bool->ah:=fun _=>.nilSlice
theorem Ib {c:Bool->CfM}(hc:∀ s,(c s).ok):bj T bz [(0,nU (c false) (c true))]=some (oU (EI c) GK Kw):=by
 have hcz:Esc.sz (nU (c false) (c true))=Esc.sz (nU CfM.zero CfM.zero):=by
  simp[nU,Esc.sz,szs,CfM.sz (hc false),CfM.sz (hc true),CfM.sz CfM.bq]
 refine (kO (zs:=[nU CfM.zero CfM.zero,.agg [StM.zero.av .nilSlice .nilSlice .nilSlice,StM.zero.av .nilSlice .nilSlice .nilSlice],.nilSlice,.nilSlice]) uG rfl rfl rfl (pf rfl) fun p hp=>?_).trans rfl
 rw[List.mem_singleton.1 hp]
 exact congrArg some hcz.symm
section
variable {F0:List AId}{G0 G:ak}{ps:List LP}{Q:ah->ak->Prop}{tb:AId}{t:me}{l:Bool->Ls}{w:Bool->ah}
theorem Ky {c:Bool->CfM}{K:AId->ak->Prop}(h:Sp F0 G0 ps G) (hK:∀ i G',Sp F0 G0 (jP i (EI c)::ps) G'->K i G'):br G (.own (oU (EI c) GK Kw)) K:=by
 intro i f
 have s7:=((((((((h.nz 70).nz 70).nz 34).nz 36).nz 36).nz 34).nz 36).nz 36).row f (oU (EI c) GK Kw)
 have s8:=bm.qu (i:=7) s7 rfl
 have s9:=bm.qu (i:=8) s8 rfl
 exact hK i _ (Sp.qW (t:=EI c) (l:=GK) (w:=Kw) (ps:=ps) s9)
theorem AX {tb:AId}{c:Bool->CfM}{t:me}{s:Bool}{K:ak->Prop}{R:ak->Prop}(h:Sp F0 G0 [jP tb t] G) (k:kK t 0) (hco:(c s).ok) (hc:t.c s=c s)
  (bad:nF (c s)->∀ i G',Sp F0 G0 [au i ((mm (c s)).1.av .nilSlice .nilSlice .nilSlice),jP tb t] G'->K G')
  (lK:¬ nF (c s)->∀ G',Sp F0 G0 [jP tb (kq t s (tc (c s)))] G'->R G') :
  wv (lr (.ptr tb [] 0)) fun v14=>wv (bt T bz v14 0) fun v15=>wv (aO T cJ v15 (.int .i64 (bI s))) fun v16=>wv (ag T G bU v16) fun v17=>al P dK.n [v17] G fun v18 G19=>wv (aP v18 0) fun v20=>wv (aP v18 1) fun v21=>br G19 (.own (hO)) fun i22 G23=>wg (aF T G23 aE (.ptr i22 [] 0) v20) fun G24=>wv (az T .neq bD v21 (.int .i64 0)) fun v25=>brB (some v25)
 (K G24)
 (wv (ag T G24 aE (.ptr i22 [] 0)) fun v26=>wv (lr (.ptr tb [] 0)) fun v27=>wv (bt T bz v27 1) fun v28=>wv (aO T gQ v28 (.int .i64 (bI s))) fun v29=>wg (aF T G24 aE v29 v26) fun G30=>R G30):=by
 obtain⟨F1,hF1⟩:=h.get (i:=0) rfl
 obtain⟨l,w,a⟩:=jP.at_ hF1
 refine ae jm ?_
 refine ae qP ?_
 refine ae (qN s) ?_
 refine ae (a.ldC k s) ?_
 rw[hc]
 have hok:=pN hco
 have hes:(mm (c s)).2=if nF (c s) then 1 else 0:=by unfold mm;split<;>rfl
 have hf:tc (c s)=⟨(mm (c s)).1,[],[],[]⟩:=rfl
 rw[hf]at lK
 refine dK.use hco fun G19 c19=>?_
 have S19:Sp F0 G0 [jP tb t] G19:=h.tmp c19
 generalize mm (c s)=X at hok hes lK bad
 obtain⟨X,e⟩:=X
 simp only at hok hes lK bad
 refine ae (tv0 _ _) ?_
 refine ae (tv1 _ _) ?_
 refine St.nw S19 hok lv0 fun i22 G24 s24=>?_
 rw[cD,aa,dC]
 refine⟨fun h0=>?_,fun h0=>?_⟩
 ·refine bad ?_ i22 G24 s24
  refine Classical.byContradiction fun hn=>h0 ?_
  rw[if_neg hn]at hes
  exact hes
 ·have hn:¬ nF (c s):=by
   intro hh
   have h0:e=0:=h0
   rw[if_pos hh,h0]at hes
   exact absurd hes (by decide)
  refine ae (St.ld (au.own (i:=0) s24 rfl) hok lv0) ?_
  refine ae jm ?_
  refine ae qO ?_
  refine ae (qM s) ?_
  have s25:=Sp.pick (((s24.nz 34).nz 36).nz 36) [4,0,1,2] (by decide) (by intro y hy;simp at hy ⊢;omega)
  have s25:Sp F0 G0 [jP tb t,bm 36 .nilSlice [],bm 36 .nilSlice [],bm 34 .nilSlice []] G24:=s25
  obtain⟨l',w',S25⟩:=Sp.BS s25
  refine DS k S25 s (f:=⟨X,[],[],[]⟩) hok (x:=⟨.nilSlice,.nilSlice,.nilSlice⟩) lv0 fun G30 s30=>?_
  have S30:=DR (f:=⟨X,[],[],[]⟩) (ps:=[bm 36 .nilSlice [],bm 36 .nilSlice [],bm 34 .nilSlice []]) (x:=⟨.nilSlice,.nilSlice,.nilSlice⟩) (i:=0) (j:=1) (m:=2) (xs:=[]) s30 rfl rfl rfl (by decide) (by intro y hy;cases hy)
  exact lK hn G30 S30
theorem fC.use {d:DlM}(hd:d.ok) (hQ0:(∃ s,nF (AL d s))->∀ G',Ch [] G [] G'->Q (.tuple [.nilPtr,.bool false]) G')
  (hQ1:(∀ s,¬ nF (AL d s))->∀ tb G',Sp [] G [jP tb (Ig d)] G'->Q (.tuple [.ptr tb [] 0,.bool true]) G'):al P fC.n [d.av] G Q:=by
 refine fC.sound ?_
 unfold fC.S
 intro i1 f1
 have s1:=(Sp.nil G).row f1 d.av
 refine ae (Dl.ld (au.own (i:=0) s1 rfl) hd) ?_
 refine cQ.use hd fun G5 c5=>?_
 have s5:Sp [] G [au i1 d.av] G5:=s1.tmp c5
 have hok:=Db hd
 unfold Ig at hQ1
 have e0:FW d=AL d false:=rfl
 have e1:FV d=AL d true:=rfl
 rw[e0,e1]
 clear e0 e1
 generalize AL d=c at *
 refine ae (Ib hok) ?_
 refine Ky s5 fun i7 G8 S8=>?_
 have S8:Sp [] G [jP i7 (EI c)] G8:=S8.erase 1
 intro R9 hR
 refine hR _ _ _ ?_
 rw[aM,aa,dT_ (by decide),aN]
 refine AX (s:=false) (R:=fun G30=>wv (az T .add ay (.int .i64 0) (.int .i64 1)) fun v31=>R9 [.ptr i7 [] 0,v31] G30) S8 (Hk hok) (hok false) rfl (fun h i G' s=>hQ0 ⟨_,h⟩ G' s.ch) fun h0 G2 S2=>?_
 rw[bg,i64_in (by decide) (by decide),aa]
 refine hR _ _ _ ?_
 rw[aM,aa,dT_ (by decide),aN]
 refine AX (s:=true) (R:=fun G30=>wv (az T .add ay (.int .i64 1) (.int .i64 1)) fun v31=>R9 [.ptr i7 [] 0,v31] G30) S2 (sT (Hk hok) (iY.start (hok false) h0)) (hok true) rfl (fun h i G' s=>hQ0 ⟨_,h⟩ G' s.ch) fun h1 G3 S3=>?_
 rw[KW]at S3
 rw[bg,i64_in (by decide) (by decide),aa]
 refine hR _ _ _ ?_
 rw[aM,aa,dF_ (by decide),aK]
 exact hQ1 (fun s=>by cases s;exact h0;exact h1) i7 G3 S3
def lD (f:StF) (o:jj):RcM×Int:=
 if o.kind=1 then n8 f o.amount o.hash else if o.kind=2 then j4 f ⟨2,o.id,0,o.hash,[]⟩ else if o.kind=3 then j4 f ⟨3,o.id,0,h0,o.note⟩ else if o.kind=4 then p6 f else noR 1
theorem zok:RcM.zero.ok:=RcM.bq
theorem Jd {f:StF}{a:Int}{h:List UInt8}(h0:(n8 f a h).2≠0):(n8 f a h).1=RcM.zero:=by
 unfold n8 at h0 ⊢
 split
 ·rfl
 split
 ·rfl
 split
 ·rfl
 split
 ·rfl
 split
 ·rfl
 ·rename_i h1 h2 h3 h4 h5
  rw[if_neg h1,if_neg h2,if_neg h3,if_neg h4,if_neg h5]at h0
  exact absurd rfl h0
theorem Ko {f:StF}(h0:(p6 f).2≠0):(p6 f).1=RcM.zero:=by
 unfold p6 at h0 ⊢
 split
 ·rfl
 split
 ·rfl
 split
 ·rfl
 ·rename_i h1 h2 h3
  rw[if_neg h1,if_neg h2,if_neg h3]at h0
  exact absurd rfl h0
theorem IB {o:jj}(ho:o.ok):(⟨2,o.id,0,o.hash,[]⟩:aL).ok:=⟨iu 2 (by decide) (by decide),ho.id,cL,ho.hash,by simp⟩
theorem Iy {o:jj}(ho:o.ok):(⟨3,o.id,0,h0,o.note⟩:aL).ok:=⟨iu 3 (by decide) (by decide),ho.id,cL,rfl,ho.note⟩
theorem Gr (i:Int) (h:List UInt8):dp ⟨2,i,0,h,[]⟩=true\/64<(⟨2,i,0,h,[]⟩:aL).note.length\/(⟨2,i,0,h,[]⟩:aL).id<0\/2048≤(⟨2,i,0,h,[]⟩:aL).id:=by
 show dp ⟨2,i,0,h,[]⟩=true\/64<([]:List UInt8).length\/i<0\/2048≤i
 by_cases h1:i<0
 ·exact .inr (.inr (.inl h1))
 by_cases h2:2048≤i
 ·exact .inr (.inr (.inr h2))
 refine .inl ?_
 unfold dp
 simp
 omega
theorem Gq (i:Int) (n:List UInt8):dp ⟨3,i,0,h0,n⟩=true\/64<(⟨3,i,0,h0,n⟩:aL).note.length\/(⟨3,i,0,h0,n⟩:aL).id<0\/2048≤(⟨3,i,0,h0,n⟩:aL).id:=by
 show dp ⟨3,i,0,h0,n⟩=true\/64<n.length\/i<0\/2048≤i
 by_cases h1:i<0
 ·exact .inr (.inr (.inl h1))
 by_cases h2:2048≤i
 ·exact .inr (.inr (.inr h2))
 by_cases h3:64<n.length
 ·exact .inr (.inl h3)
 refine .inl ?_
 unfold dp
 simp
 omega
theorem iY.call {f:StF}(I:iY f) {o:jj}(ho:o.ok) (h0:(lD f o).2=0):∃ f',iY f'/\(lD f o).1.ok/\Bb f (lD f o).1 [] f':=by
 unfold lD at h0 ⊢
 split at h0
 ·rename_i h1
  rw[if_pos h1]
  obtain⟨u,e,hu,_,hs,ha,_⟩:=I.offer ho.hash h0
  rw[e]
  exact⟨_,hs,iR hu,ha⟩
 rename_i h1
 rw[if_neg h1]
 split at h0
 ·rename_i h2
  rw[if_pos h2]
  obtain⟨e,hs,ha⟩:=I.y9 (IB ho) (Gr _ _) (by show (2:Int)≠1;decide) h0
  rw[e]
  exact⟨_,hs,iR (IB ho),ha⟩
 rename_i h2
 rw[if_neg h2]
 split at h0
 ·rename_i h3
  rw[if_pos h3]
  obtain⟨e,hs,ha⟩:=I.y9 (Iy ho) (Gq _ _) (by show (3:Int)≠1;decide) h0
  rw[e]
  exact⟨_,hs,iR (Iy ho),ha⟩
 rename_i h3
 rw[if_neg h3]
 split at h0
 ·rename_i h4
  rw[if_pos h4]
  obtain⟨e,hr,hs,ha,_⟩:=I.sign h0
  rw[e]
  exact⟨_,hs,hr,ha⟩
 ·cases h0
theorem zS {f:StF}{u:aL}(h0:(j4 f u).2≠0):(j4 f u).1=RcM.zero:=by
 unfold j4 at h0 ⊢
 split
 ·rfl
 split
 ·rfl
 split
 ·rfl
 ·rename_i h1 h2 h3
  rw[if_neg h1,if_neg h2,if_neg h3]at h0
  exact absurd rfl h0
theorem KT {f:StF}{o:jj}(h0:(lD f o).2≠0):(lD f o).1=RcM.zero:=by
 unfold lD at h0 ⊢
 split at h0
 ·rename_i h1;rw[if_pos h1];exact Jd h0
 rename_i h1
 rw[if_neg h1]
 split at h0
 ·rename_i h1;rw[if_pos h1];exact zS h0
 rename_i h1
 rw[if_neg h1]
 split at h0
 ·rename_i h1;rw[if_pos h1];exact zS h0
 rename_i h1
 rw[if_neg h1]
 split at h0
 ·rename_i h1;rw[if_pos h1];exact Ko h0
 rename_i h1
 rw[if_neg h1]
 rfl
theorem EA {f:StF}(I:iY f) {o:jj}(ho:o.ok):(lD f o).1.ok:=by
 by_cases h:(lD f o).2=0
 ·obtain⟨_,_,h,_⟩:=I.call ho h
  exact h
 ·rw[KT h];exact zok
end
end Go.Esc.M
namespace Go.Esc.M
open Go Go.Esc
def jj.zero:jj:=⟨0,false,0,0,h0,[],0⟩
theorem jj.bq:jj.zero.ok:=⟨cL,cL,cL,rfl,by simp[jj.zero],cL⟩
theorem abw:bj T ja []=some jj.zero.av:=rfl
theorem abl {m:cr}(h:m.ok):yE m jj.zero=m:=by
 have h1:=h.index
 unfold yE
 have e:jj.zero.index=0:=rfl
 have e2:¬ jj.zero.note=[98,101,110,100]:=by decide
 rw[e,if_neg e2,Int.add_zero,i64_in h1.1 h1.2]
def tF (f:StF) (o:jj):StF:=if o.kind=4 then yG f (lD f o).1 else q6 f (lD f o).1.upd
theorem iY.tF {f:StF}(I:iY f) {o:jj}(ho:o.ok) (h0:(lD f o).2=0):iY (tF f o)/\Bb f (lD f o).1 [] (tF f o):=by
 unfold M.tF
 unfold lD at h0 ⊢
 split at h0
 ·rename_i h1
  rw[if_pos h1,if_neg (by omega)]
  obtain⟨u,e,hu,_,hs,ha,_⟩:=I.offer ho.hash h0
  rw[e]
  exact⟨hs,ha⟩
 rename_i h1
 rw[if_neg h1]
 split at h0
 ·rename_i h2
  rw[if_pos h2,if_neg (by omega)]
  obtain⟨e,hs,ha⟩:=I.y9 (IB ho) (Gr _ _) (by show (2:Int)≠1;decide) h0
  rw[e]
  exact⟨hs,ha⟩
 rename_i h2
 rw[if_neg h2]
 split at h0
 ·rename_i h3
  rw[if_pos h3,if_neg (by omega)]
  obtain⟨e,hs,ha⟩:=I.y9 (Iy ho) (Gq _ _) (by show (3:Int)≠1;decide) h0
  rw[e]
  exact⟨hs,ha⟩
 rename_i h3
 rw[if_neg h3]
 split at h0
 ·rename_i h4
  rw[if_pos h4,if_pos h4]
  obtain⟨e,hr,hs,ha,_⟩:=I.sign h0
  rw[e]
  exact⟨hs,ha⟩
 ·cases h0
def sD (t:me) (s:Bool) (m:cr):me×Bool:=
 if m.kind=1\/m.kind=2\/m.kind=3 then (if vu (t.f s) (Bw m)=0 then (kq t s ⟨(t.f s).s,(t.f s).o,(t.f s).p++[Bw m],(t.f s).h⟩,true) else (t,false))
 else if (mU (t.c s) (t.f s) m).e=0 then (uD t s (AO m) (yy (t.f s) m.index m.hash),true)
 else if (jR (t.f s) m).2=0 then (uD t s (jR (t.f s) m).1 (uQ (t.f s) (jR (t.f s) m).1),true) else (t,false)
theorem kK.more {t:me}{n m:Nat}(k:kK t n) (h:n≤m):kK t m:={ c:=k.c,f:=k.f,q:=k.q,n:=fun s=>Nat.le_trans (k.n s) h }
theorem H6 {t:me}{n:Nat}(k:kK t n) {s:Bool}{m:cr}(hm:m.ok):kK (sD t s m).1 (n+1):=by
 have I:=k.f s
 unfold sD
 split
 ·split
  ·rename_i h
   exact (sT k (I.heard (vF hm) h).1).more (by omega)
  ·exact k.more (by omega)
 split
 ·rename_i h
  obtain⟨_,h2,h3,_⟩:=I.came (c:=t.c s) hm h
  exact CR k h2 h3
 split
 ·rename_i h
  obtain⟨e,h2,h3,_⟩:=I.y8 hm h
  rw[e]
  exact CR k h2 h3
 ·exact k.more (by omega)
section
variable {F0:List AId}{G0 G:ak}{ps:List LP}{Q:ah->ak->Prop}{tb:AId}{t:me}{l:Bool->Ls}{w:Bool->ah}
theorem Sp.one {p:LP}{F:List AId}(h:p.p G F) (c:Ch F0 G0 F G):Sp F0 G0 [p] G:=⟨[F],⟨h,by simp,trivial⟩,by simpa using c⟩
theorem Hx (s:Bool):bt T aE (aS tb s) 5=some (.ptr tb [1,bN s,5] (328+(bN s*115+5))):=by cases s<;>rfl
theorem IG {n:Nat}{s:Bool}{x:ah}{q:List aL}{K:ak->Prop}(h:Sp F0 G0 [jP tb t,bm 36 x (q.map aL.av)] G) (k:kK t n)
  (hK:∀ G',Sp F0 G0 [jP tb (kq t s ⟨(t.f s).s,(t.f s).o,q,(t.f s).h⟩)] G'->K G'):wg (aF T G aj (.ptr tb [1,bN s,5] (328+(bN s*115+5))) x) K:=by
 obtain⟨l,w,h2⟩:=Sp.BS h
 have a:=Sp.DQ h2
 have hx:=(bm.own (i:=9) h2 rfl).leaf
 cases s
 ·refine fg (st3 a.g (a.szl k) rfl rfl (a.szS k) rfl rfl (StM.szl (k.f false).ok (a.lv false)) rfl rfl rfl bT (kF hx rfl) (by rw[(a.lv false).2.1.1,hx.1]) hx.2.2) (hK _ ?_)
  have h3:=Sp.setRow (j:=0) h2 rfl (oU (kq t false ⟨(t.f false).s,(t.f false).o,q,(t.f false).h⟩) (mg l false ⟨(l false).o,x,(l false).h⟩) w)
  have h4:=Sp.pick h3 [0,1,9,3,4,5,6,7,8] (by decide) (by intro y hy;simp at hy ⊢;omega)
  exact Sp.qW (ps:=[]) (t:=kq t false ⟨(t.f false).s,(t.f false).o,q,(t.f false).h⟩) (l:=mg l false ⟨(l false).o,x,(l false).h⟩) (w:=w) h4
 ·refine fg (st3 a.g (a.szl k) rfl rfl (a.szS k) rfl rfl (StM.szl (k.f true).ok (a.lv true)) rfl rfl rfl bT (kF hx rfl) (by rw[(a.lv true).2.1.1,hx.1]) hx.2.2) (hK _ ?_)
  have h3:=Sp.setRow (j:=0) h2 rfl (oU (kq t true ⟨(t.f true).s,(t.f true).o,q,(t.f true).h⟩) (mg l true ⟨(l true).o,x,(l true).h⟩) w)
  have h4:=Sp.pick h3 [0,1,2,3,4,9,6,7,8] (by decide) (by intro y hy;simp at hy ⊢;omega)
  exact Sp.qW (ps:=[]) (t:=kq t true ⟨(t.f true).s,(t.f true).o,q,(t.f true).h⟩) (l:=mg l true ⟨(l true).o,x,(l true).h⟩) (w:=w) h4
end
end Go.Esc.M
namespace Go.Esc.M
open Go Go.Esc
def mea (f:StF):Nat:=f.o.length+f.s.sgnA.toNat+f.s.sgnB.toNat+f.s.atA.toNat+f.s.atB.toNat
theorem LG {f:StF}(I:iY f):mea f≤10240:=by
 have:=I.lo
 have:=I.lp
 have:=I.a0
 have:=I.a1
 have:=I.a2
 have:=I.a3
 have:=I.b0
 have:=I.b1
 have:=I.b2
 have:=I.b3
 unfold mea
 omega
def Few (t:me):Prop:=∀ s,(t.q (!s)).length≤mea (t.f s)
theorem LN {t:me}{n:Nat}(k:kK t n) (h:Few t):kK t 10240:=
 { c:=k.c,f:=k.f,q:=k.q,n:=fun s=>by have h1:=h (!s);rw[Bool.not_not]at h1;exact Nat.le_trans h1 (LG (k.f (!s))) }
theorem Ce {t:me}{s:Bool}{f:StF}(h:Few t) (hm:mea (t.f s)≤mea f):Few (kq t s f):=by
 intro r
 show (t.q (!r)).length≤mea (mg t.f s f r)
 by_cases e:r=s
 ·subst e
  rw[ox]
  exact Nat.le_trans (h r) hm
 ·rw[qF _ _ e]
  exact h r
theorem H2 {t:me}{s:Bool}{q:List cr}(h:Few t) (hq:q.length≤(t.q s).length):Few (oW t s q):=by
 intro r
 show (mg t.q s q (!r)).length≤mea (t.f r)
 by_cases e:(!r)=s
 ·rw[e,ox]
  have:=h r
  rw[e]at this
  omega
 ·rw[qF _ _ e]
  exact h r
theorem AF {t:me}{s:Bool}{r:RcM}{f':StF}(h:Few t) (hm:(sL (t.c s) (t.f s) f' r).length+mea (t.f s)≤mea f'):Few (uD t s r f'):=by
 intro x
 show (mg t.q (!s) (t.q (!s)++sL (t.c s) (t.f s) f' r) (!x)).length≤mea (mg t.f s f' x)
 by_cases e:x=s
 ·subst e
  rw[ox,ox,List.length_append]
  have:=h x
  omega
 ·have e2:(!x)≠(!s):=fun hh=>e (by cases x<;>cases s<;>simp_all)
  rw[qF _ _ e,qF _ _ e2]
  exact h x
theorem Jk {f:StF}(I:iY f) {o:jj}(h0:(lD f o).2=0):1+mea f≤mea (tF f o):=by
 have ho:∀ u,1+mea f≤mea (q6 f u):=by
  intro u
  unfold mea q6
  simp only[List.length_append,List.length_singleton]
  omega
 unfold tF
 by_cases h4:o.kind=4
 ·rw[if_pos h4]
  have e:lD f o=p6 f:=by unfold lD;rw[if_neg (by omega),if_neg (by omega),if_neg (by omega),if_pos h4]
  rw[e]at h0 ⊢
  unfold p6 at h0 ⊢
  split at h0
  ·cases h0
  rename_i h1
  rw[if_neg h1]
  split at h0
  ·cases h0
  rename_i h2
  rw[if_neg h2]
  split at h0
  ·cases h0
  rename_i h3
  rw[if_neg h3]
  have h5:¬ ((f.o.length:Int)=f.s.sgnA/\f.s.atB=f.s.sgnB):=fun h=>h2 (.inr h)
  have:=I.a0
  have:=I.a1
  have:=I.a2
  have:=I.a3
  have:=I.b0
  have:=I.b1
  have:=I.b2
  show 1+mea f≤f.o.length+((f.o.length:Nat):Int).toNat+f.s.atB.toNat+f.s.atA.toNat+f.s.atB.toNat
  unfold mea
  omega
 ·rw[if_neg h4]
  exact ho _
theorem Jj {c:CfM}{f:StF}(I:iY f) {m:cr}(h0:(mU c f m).e=0):1+mea f≤mea (yy f m.index m.hash):=by
 unfold mU at h0
 split at h0
 ·cases h0
 split at h0
 ·cases h0
 split at h0
 ·cases h0
 split at h0
 ·cases h0
 rename_i h4
 have:=I.a0
 have:=I.a1
 have:=I.b0
 have:=I.b1
 have:=I.b2
 have:=I.b3
 show 1+mea f≤f.o.length+f.s.sgnA.toNat+f.s.sgnB.toNat+f.s.heldA.toNat+((f.p.length:Nat):Int).toNat
 unfold mea
 omega
theorem H4 {t:me}{n:Nat}(k:kK t n) (h:Few t) {s:Bool}{m:cr}(hm:m.ok):Few (sD t s m).1:=by
 have I:=k.f s
 unfold sD
 split
 ·split
  ·exact Ce h (Nat.le_refl _)
  ·exact h
 split
 ·rename_i h0
  refine AF h ?_
  have:=Jj (c:=t.c s) I h0
  have:=xn (t.c s) (t.f s) (yy (t.f s) m.index m.hash) (AO m)
  omega
 split
 ·rename_i h0
  obtain⟨e,_⟩:=I.y8 hm h0
  rw[e]
  refine AF h ?_
  show 0+mea (t.f s)≤mea (t.f s)
  omega
 ·exact h
theorem JF {t:me}{n:Nat}(k:kK t n) (h:Few t) {s:Bool}{o:jj}(h0:(lD (t.f s) o).2=0):Few (uD t s (lD (t.f s) o).1 (tF (t.f s) o)):=by
 refine AF h ?_
 have:=Jk (k.f s) h0
 have:=xn (t.c s) (t.f s) (tF (t.f s) o) (lD (t.f s) o).1
 omega
theorem KJ (d:DlM):Few (Ig d):=fun s=>Nat.zero_le _
end Go.Esc.M
namespace Go.Esc.M
open Go Go.Esc
theorem Kb {G:ak}{R d:Nat}{v:ah}{m:Nat}(h:wt T G R (d+4) db v m):∃ x:DlM,v=x.av/\x.ok:=by
 obtain⟨cs,ms,rfl,hf,rfl⟩:=wP nf rfl h
 obtain⟨c1,cs,m1,ms,rfl,rfl,h1,hf⟩:=nA hf
 obtain⟨c2,cs,m2,ms,rfl,rfl,h2,hf⟩:=nA hf
 obtain⟨c3,cs,m3,ms,rfl,rfl,h3,hf⟩:=nA hf
 obtain⟨c4,cs,m4,ms,rfl,rfl,h4,hf⟩:=nA hf
 obtain⟨rfl,rfl⟩:=Gk hf
 obtain⟨a1,rfl,w1,_⟩:=wQ cu rfl h1
 obtain⟨a2,rfl,w2,_⟩:=wQ cu rfl h2
 obtain⟨a3,b3,rfl,w3,w3'⟩:=Du h3
 obtain⟨a4,b4,rfl,w4,w4'⟩:=Du h4
 exact⟨⟨a1,a2,a3,b3,a4,b4⟩,rfl,⟨vt.1 w1,vt.1 w2,w3,w3',w4,w4'⟩⟩
end Go.Esc.M
namespace Go.Esc.M
open Go Go.Esc
section
variable {F0:List AId}{G0 G:ak}{ps:List LP}{Q:ah->ak->Prop}
end
end Go.Esc.M
namespace Go.Esc.M
open Go Go.Esc
structure abz (root:List UInt8) (L:List b6) (n:Nat):Prop where
 len:L.length≤49
 slot:∀ j,(atS L j).full=true->∃ i:Nat,i<n/\atS L j=⟨(i:Int),mj (pl (i:Int)) 48 root,true⟩/\level (pl (i:Int))=j/\∀ m:Nat,m<n->level (pl (m:Int))=j->m≤i
 all:∀ m:Nat,m<n->(atS L (level (pl (m:Int)))).full=true
theorem aba (root:List UInt8):abz root [] 0:=by
 refine⟨by decide,fun j h=>?_,fun m h=>by omega⟩
 rw[wF (by simp)]at h
 cases h
theorem aa5 {i:Nat}(h:i≤281474976710655):okN (i:Int)=true/\pl (i:Int)+i=281474976710655:=by
 have h1:okN (i:Int)=true:=GJ.2 ⟨by omega,by omega⟩
 have:=(yg h1).1
 exact⟨h1,by omega⟩
theorem abM {root:List UInt8}{L:List b6}{n:Nat}(h:abz root L n) (hn:n<281474976710655):vl L (n:Int) (mj (pl (n:Int)) 48 root)=true:=by
 refine sb.2 fun j hj=>?_
 unfold vy
 cases hfu:(atS L j).full with
 | false=>rfl
 | true=>
  obtain⟨i,hi,he,hlj,hlast⟩:=h.slot j hfu
  obtain⟨hno,hpn⟩:=aa5 (i:=n) (by omega)
  obtain⟨hio,hpi⟩:=aa5 (i:=i) (by omega)
  obtain⟨lv,hlv⟩:∃ k,k=level (pl (n:Int)):=⟨_,rfl⟩
  have hle:=rq (pl (n:Int))
  have hjl:(2:Nat) ^ j<2 ^ lv:=Nat.pow_lt_pow_right (by decide) (by omega)
  have hpos:0<(2:Nat) ^ j:=Nat.pow_pos (by decide)
  have hnear:pl (n:Int)/2 ^ level (pl (n:Int))=pl (i:Int)/2 ^ level (pl (n:Int)):=by
   refine (abE (BZ _)).2 ⟨by omega,?_⟩
   rw[<- hlv]
   by_cases hb:n<2 ^ j
   ·omega
   ·obtain⟨m,hm⟩:∃ m,m=n-2 ^ j:=⟨_,rfl⟩
    obtain⟨hmo,hpm⟩:=aa5 (i:=m) (by omega)
    obtain⟨q,hq⟩:2 ^ (j+1) ∣ pl (n:Int):=Nat.dvd_trans (Nat.pow_dvd_pow 2 (by omega)) (BZ _)
    have hml:level (pl (m:Int))=j:=by
     refine Jo (m:=q) (by omega) ?_
     rw[Nat.mul_add,Nat.mul_one,<- Nat.mul_assoc,<- Nat.pow_succ]
     obtain⟨X,hX⟩:∃ X,X=2 ^ (j+1)*q:=⟨_,rfl⟩
     rw[<- hX]at hq ⊢
     omega
    have:=hlast m (by omega) hml
    omega
  have hv:=abI (a:=pl (n:Int)) (b:=pl (i:Int)) (k:=level (pl (n:Int))) (n:=48-level (pl (n:Int))) (x:=root) (BZ _) hnear
  rw[show level (pl (n:Int))+(48-level (pl (n:Int)))=48 by omega]at hv
  have hd:kN (mj (pl (n:Int)) 48 root) (n:Int) (i:Int)=(mj (pl (i:Int)) 48 root,0):=by
   unfold kN
   rw[hno,hio,Bool.and_self,cond_true,if_pos hnear,hv]
  rw[he]
  show (true && !decide (kN (mj (pl (n:Int)) 48 root) (n:Int) (i:Int)=(mj (pl (i:Int)) 48 root,0)))=false
  rw[hd,dT_ rfl]
  rfl
theorem abT {l:List b6}{n:Int}{secret:List UInt8}{j:Nat}:atS (Aq l n secret) j=if j<49 then (if j=level (pl n) then ⟨n,secret,true⟩ else atS l j) else oF:=by
 by_cases h:j<49
 ·rw[if_pos h]
  have e:(Aq l n secret)[j]?=some (if j=level (pl n) then ⟨n,secret,true⟩ else atS l j):=by
   unfold Aq
   rw[List.getElem?_map,List.getElem?_range h]
   rfl
  rw[A8 e]
  by_cases hj:j=level (pl n)
  ·rw[if_pos hj];rfl
  ·rw[if_neg hj]
   by_cases hf:(atS l j).full=true
   ·rw[if_pos hf]
   ·rw[if_neg hf]
    unfold atS at hf ⊢
    split
    ·rename_i h2;rw[if_pos h2]at hf;exact absurd h2 hf
    ·rfl
 ·rw[if_neg h,wF (by rw[HS];omega)]
theorem aa9 {root:List UInt8}{L:List b6}{n:Nat}(h:abz root L n) (hn:n<281474976710655):tw L (n:Int) (jS root (n:Int)).1=(Aq L (n:Int) (mj (pl (n:Int)) 48 root),0)/\abz root (tw L (n:Int) (jS root (n:Int)).1).1 (n+1):=by
 obtain⟨hno,hpn⟩:=aa5 (i:=n) (by omega)
 have hs:(jS root (n:Int)).1=mj (pl (n:Int)) 48 root:=by
  unfold jS
  rw[hno,cond_true]
 have he:tw L (n:Int) (jS root (n:Int)).1=(Aq L (n:Int) (mj (pl (n:Int)) 48 root),0):=by
  have:=h.len
  rw[hs]
  unfold tw
  rw[if_neg (by omega),if_pos hno,if_pos (abM h hn)]
 refine⟨he,?_⟩
 rw[he]
 have hat:=fun j=>abT (l:=L) (n:=(n:Int)) (secret:=mj (pl (n:Int)) 48 root) (j:=j)
 refine⟨by show (Aq L _ _).length≤49;rw[HS];omega,fun j hj=>?_,fun m hm=>?_⟩
 ·rw[show (Aq L (n:Int) (mj (pl (n:Int)) 48 root),(0:Int)).1=Aq L (n:Int) (mj (pl (n:Int)) 48 root) from rfl,hat]at hj ⊢
  by_cases h49:j<49
  ·rw[if_pos h49]at hj ⊢
   by_cases hjl:j=level (pl (n:Int))
   ·rw[if_pos hjl]
    exact⟨n,by omega,rfl,hjl.symm,fun m hm _=>by omega⟩
   ·rw[if_neg hjl]at hj ⊢
    obtain⟨i,h1,h2,h3,h4⟩:=h.slot j hj
    refine⟨i,by omega,h2,h3,fun m hm hl=>?_⟩
    by_cases hmn:m=n
    ·subst hmn
     exact absurd hl.symm hjl
    ·exact h4 m (by omega) hl
  ·rw[if_neg h49]at hj
   cases hj
 ·rw[show (Aq L (n:Int) (mj (pl (n:Int)) 48 root),(0:Int)).1=Aq L (n:Int) (mj (pl (n:Int)) 48 root) from rfl,hat]
  have:=rq (pl (m:Int))
  rw[if_pos (by omega)]
  by_cases hmn:level (pl (m:Int))=level (pl (n:Int))
  ·rw[if_pos hmn]
  ·rw[if_neg hmn]
   have:m≠n:=fun e=>hmn (by rw[e])
   exact h.all m (by omega)
theorem abn (b:Bool) (x y:List ba):cnt b (x++y)=cnt b x+cnt b y:=by
 unfold cnt
 rw[List.filter_append,List.length_append]
theorem abo {b:Bool}{l:List ba}(h:∀ p∈l,p.ours=b):cnt b l=l.length/\cnt (!b) l=0:=by
 unfold cnt
 rw[List.filter_eq_self.2 fun p hp=>by rw[h p hp];cases b<;>rfl,List.filter_eq_nil_iff.2 fun p hp=>by rw[h p hp];cases b<;>decide]
 exact⟨rfl,rfl⟩
theorem abJ (a b:List aL):cnt true (oN a b)=(a.filter (opens b)).length/\cnt false (oN a b)=(b.filter (opens a)).length:=by
 have h1:=abo (b:=true) (l:=kS (iX true (opens b) a)) rZ
 have h2:=abo (b:=false) (l:=kS (iX false (opens a) b)) rZ
 have h3:cnt false (kS (iX true (opens b) a))=0:=h1.2
 have h4:cnt true (kS (iX false (opens a) b))=0:=h2.2
 have e:∀ m f (l:List aL),(kS (iX m f l)).length=(l.filter f).length:=by
  intro m f l
  rw[xm]
  unfold iX
  rw[List.length_map]
 unfold oN
 rw[abn,abn,h1.1,h3,h2.1,h4,e,e]
 exact⟨rfl,by omega⟩
def ab4 (q p:ba):Prop:=¬ (p.ours=true/\q.ours=false)/\¬ (p.ours=q.ours/\p.id≤q.id)
theorem abD:∀ {l pre:List ba},(∀ p∈l,0≤p.id/\1≤p.amount/\p.amount≤jb)->(pre++l).Pairwise ab4->Okl pre l
 | [],_,_,_=>trivial
 | p::l,pre,h,hp=>by
  obtain⟨h1,h2,h3⟩:=h p (by simp)
  refine⟨⟨h1,h2,h3,fun q hq=>?_⟩,abD (fun x hx=>h x (by simp[hx])) (by simpa using hp)⟩
  exact (List.pairwise_append.1 hp).2.2 q hq p (by simp)
theorem aaS {m:Bool}{f:aL->Bool}{l:List aL}(hi:rA l) (hk:∀ u,f u=true->u.kind=1):(kS (iX m f l)).Pairwise fun q p=>q.id<p.id:=by
 have h0:l.Pairwise fun u w=>u.kind=1->w.kind=1->u.id≠w.id:=by
  rw[List.pairwise_iff_getElem]
  intro i j hi' hj' hij h1 h2 he
  have:=FF hi (List.getElem?_eq_getElem hi') (List.getElem?_eq_getElem hj') h1 h2 he
  omega
 have h1:(iX m f l).Pairwise fun q p=>q.id≠p.id:=by
  unfold iX
  rw[List.pairwise_map]
  have h2:=List.Pairwise.filter f h0
  refine List.Pairwise.imp_of_mem ?_ h2
  intro a b ha hb h
  exact h (hk a (List.mem_filter.1 ha).2) (hk b (List.mem_filter.1 hb).2)
 have hp:=(vP (iX m f l)).1.perm
 have h2:(kS (iX m f l)).Pairwise fun q p=>q.id≠p.id:=(hp.pairwise_iff (fun {a b} (h:a.id≠b.id)=>fun e=>h e.symm)).2 h1
 have h3:=(vP (iX m f l)).2
 rw[List.pairwise_iff_getElem]
 intro i j hi' hj' hij
 have a:=(List.pairwise_iff_getElem.1 h2) i j hi' hj' hij
 have b:=(List.pairwise_iff_getElem.1 h3) i j hi' hj' hij
 omega
theorem aaC {r:List aL}{u:aL}(h:opens r u=true):u.kind=1:=by
 simp[opens,stays]at h
 exact h.1.1
theorem abG {a b:List aL}(va:∀ u∈a,dp u=true) (vb:∀ u∈b,dp u=true) (ia:rA a) (ib:rA b):Okl [] (oN a b):=by
 have mem:∀ {m:Bool}{f:aL->Bool}{l:List aL},(∀ u,f u=true->u.kind=1)->(∀ u∈l,dp u=true)->∀ p∈kS (iX m f l),0≤p.id/\1≤p.amount/\p.amount≤jb:=by
  intro m f l hk hv p hp
  have:=(vP (iX m f l)).1.mem.1 hp
  obtain⟨u,hu,rfl⟩:=List.mem_map.1 this
  obtain⟨h1,h2⟩:=List.mem_filter.1 hu
  obtain⟨c1,_,c2⟩:=lW (hv u h1)
  have:=hk u h2
  show 0≤u.id/\1≤u.amount/\u.amount≤jb
  unfold jb
  omega
 refine abD (fun p hp=>?_) ?_
 ·rcases List.mem_append.1 hp with hp|hp
  ·exact mem (fun u h=>aaC h) va p hp
  ·exact mem (fun u h=>aaC h) vb p hp
 ·rw[List.nil_append]
  unfold oN
  refine List.pairwise_append.2 ⟨?_,?_,?_⟩
  ·refine List.Pairwise.imp_of_mem ?_ (aaS ia fun u h=>aaC h)
   intro q p hq hp h
   exact⟨fun ⟨_,e⟩=>(by rw[rZ q hq]at e;cases e),fun ⟨_,e⟩=>by omega⟩
  ·refine List.Pairwise.imp_of_mem ?_ (aaS ib fun u h=>aaC h)
   intro q p hq hp h
   exact⟨fun ⟨e,_⟩=>(by rw[rZ p hp]at e;cases e),fun ⟨_,e⟩=>by omega⟩
  ·intro q hq p hp
   have e1:=rZ q hq
   have e2:=rZ p hp
   exact⟨fun ⟨e,_⟩=>(by rw[e2]at e;cases e),fun ⟨e,_⟩=>(by rw[e1,e2]at e;cases e)⟩
theorem abm {id:Int}:∀ {l:List aL},jH id l≠0->jH id l=2\/jH id l=3
 | [],h=>absurd rfl h
 | u::l,h=>by
  by_cases hr:m8 id u=true
  ·have e:jH id (u::l)=u.kind:=if_pos hr
   rw[e]
   simp only[m8,Bool.and_eq_true,decide_eq_true_eq]at hr
   have:=(lW hr.2.2).2.2
   omega
  ·have e:jH id (u::l)=jH id l:=if_neg hr
   rw[e]at h ⊢
   exact abm h
theorem aa3 {o p:List aL}{a:Int}{n m:Nat}(ha:a.toNat≤m) (vo:∀ u∈o,dp u=true):((o.take n).filter (opens (p.take m))).length≤kX o p a:=by
 unfold kX ml cw
 rw[List.length_map]
 refine Nat.le_trans (List.Sublist.filter _ (List.take_sublist n o)).length_le ?_
 rw[<- List.countP_eq_length_filter,<- List.countP_eq_length_filter]
 refine List.countP_mono_left fun u hu h=>?_
 have hk:=aaC h
 rw[dT_ hk,vo u hu,Bool.true_and,Bool.true_and,decide_eq_true_eq]
 refine Classical.byContradiction fun hn=>?_
 have h2:=pP (id:=u.id) (l:=p) ha hn
 unfold opens stays at h
 simp only[Bool.and_eq_true,decide_eq_true_eq,Bool.not_eq_true',decide_eq_false_iff_not]at h
 rw[h2]at h
 rcases abm hn with h3|h3
 ·exact h.2 h3
 ·exact h.1.2 h3
end Go.Esc.M
