import Derived.Test.YtkojimdacnohpaaGreatDoorLWh
import Derived.Test.YtkojimdacnohpaaGreatDoorLWc
import Derived.Test.YtkojimdacnohpaaGreatDoorLRO
import Derived.Test.YtkojimdacnohpaaGreatDoorLUl
import Derived.Test.YtkojimdacnohpaaGreatDoorLSe
set_option maxHeartbeats 4000000
set_option linter.unusedSimpArgs false
set_option linter.unusedVariables false
set_option maxRecDepth 20000
namespace Go.Esc
open Go Go.RowKit
theorem Sps.at_ {G:ak}:∀ {ps:List LP}{Fs:List (List AId)},Sps ps Fs G->∀ {i:Nat}{p:LP},ps[i]?=some p->∃ F,Fs[i]?=some F/\p.p G F
 | [],_,_,_,_,hi=>by simp at hi
 | _::_,[],h,_,_,_=>h.elim
 | q::ps,E::Fs,h,0,p,hi=>by
  simp at hi;subst hi;exact⟨E,rfl,h.1⟩
 | q::ps,E::Fs,h,i+1,p,hi=>by
  obtain⟨F,h1,h2⟩:=Sps.at_ h.2.2 (i:=i) (p:=p) (by simpa using hi);exact⟨F,by simpa using h1,h2⟩
theorem Aj {Fs:List (List AId)}{i:Nat}{F:List AId}(h:Fs[i]?=some F):∀ j∈F,j∈Fs.flatten:=fun j hj=>List.mem_flatten.2 ⟨F,List.mem_of_getElem? h,hj⟩
theorem Sps.dis {G:ak}:∀ {ps:List LP}{Fs:List (List AId)},Sps ps Fs G->∀ {i k:Nat}{F E:List AId},Fs[i]?=some F->Fs[k]?=some E->i≠k->∀ j∈F,j ∉ E
 | [],[],_,_,_,_,_,hi,_,_=>by simp at hi
 | [],_::_,h,_,_,_,_,_,_,_=>h.elim
 | _::_,[],h,_,_,_,_,_,_,_=>h.elim
 | q::ps,X::Fs,h,0,0,F,E,_,_,hne=>absurd rfl hne
 | q::ps,X::Fs,h,0,k+1,F,E,hi,hk,_=>by
  simp at hi;subst hi;intro j hj hm;exact h.2.1 j hj (Aj (i:=k) (by simpa using hk) j hm)
 | q::ps,X::Fs,h,i+1,0,F,E,hi,hk,_=>by
  simp at hk;subst hk;intro j hj hm;exact h.2.1 j hm (Aj (i:=i) (by simpa using hi) j hj)
 | q::ps,X::Fs,h,i+1,k+1,F,E,hi,hk,hne=>Sps.dis h.2.2 (i:=i) (k:=k) (by simpa using hi) (by simpa using hk) (by omega)
def sel {α:Type} (js:List Nat) (l:List α):List α:=js.filterMap fun j=>l[j]?
theorem Sps.pick {G:ak}{ps:List LP}{Fs:List (List AId)}(h:Sps ps Fs G):∀ {js:List Nat},js.Nodup->(∀ j∈js,j<ps.length)->Sps (sel js ps) (sel js Fs) G/\∀ x∈(sel js Fs).flatten,∃ j∈js,∃ F,Fs[j]?=some F/\x∈F
 | [],_,_=>⟨trivial,by simp[sel]⟩
 | j::js,hn,hl=>by
  obtain⟨hn1,hn2⟩:=List.nodup_cons.1 hn;obtain⟨ih1,ih2⟩:=Sps.pick h hn2 fun k hk=>hl k (by simp[hk]);obtain⟨p,hp⟩:∃ p,ps[j]?=some p:=⟨_,List.getElem?_eq_getElem (hl j (by simp))⟩;obtain⟨F,hF,hpF⟩:=h.at_ hp;have e1:sel (j::js) ps=p::sel js ps:=by simp[sel,hp]
  have e2:sel (j::js) Fs=F::sel js Fs:=by simp[sel,hF]
  rw[e1,e2];refine⟨⟨hpF,fun x hx hm=>?_,ih1⟩,fun x hx=>?_⟩
  ·obtain⟨k,hk,E,hE,hxE⟩:=ih2 x hm;exact h.dis hF hE (fun e=>hn1 (e▸hk)) x hx hxE
  ·have hx:x∈F\/x∈(sel js Fs).flatten:=(by simpa using hx);rcases hx with hx|hx
   ·exact⟨j,by simp,F,hF,hx⟩
   ·obtain⟨k,hk,E,hE,hxE⟩:=ih2 x hx;exact⟨k,by simp[hk],E,hE,hxE⟩
theorem Sps.cat {G:ak}:∀ {qs ps:List LP}{Gs Fs:List (List AId)},Sps qs Gs G->Sps ps Fs G->(∀ j∈Gs.flatten,j ∉ Fs.flatten)->Sps (qs++ps) (Gs++Fs) G
 | [],ps,[],Fs,_,h,_=>h
 | [],_,_::_,_,h,_,_=>h.elim
 | _::_,_,[],_,h,_,_=>h.elim
 | q::qs,ps,E::Gs,Fs,t,h,hd=>by
  obtain⟨t1,t2,t3⟩:=t;refine⟨t1,fun j hj hm=>?_,Sps.cat t3 h fun j hj=>hd j (by simp only[List.flatten_cons,List.mem_append];exact .inr hj)⟩;have hm:j∈(Gs++Fs).flatten:=hm;rw[List.flatten_append,List.mem_append]at hm;rcases hm with hm|hm
  ·exact t2 j hj hm
  ·exact hd j (by simp only[List.flatten_cons,List.mem_append];exact .inl hj) hm
theorem Sps.split {G:ak}:∀ {qs ps:List LP}{Fs:List (List AId)},Sps (qs++ps) Fs G->∃ Gs Es,Fs=Gs++Es/\Sps qs Gs G/\Sps ps Es G/\∀ j∈Gs.flatten,j ∉ Es.flatten
 | [],ps,Fs,h=>⟨[],Fs,rfl,trivial,h,by simp⟩
 | _::_,_,[],h=>h.elim
 | q::qs,ps,F::Fs,h=>by
  obtain⟨h1,h2,h3⟩:=h;obtain⟨Gs,Es,rfl,k1,k2,k3⟩:=Sps.split h3;refine⟨F::Gs,Es,rfl,⟨h1,fun j hj hm=>h2 j hj (by rw[List.flatten_append];exact List.mem_append.2 (.inl hm)),k1⟩,k2,fun j hj hm=>?_⟩;have hj:j∈F\/j∈Gs.flatten:=by simpa using hj
  rcases hj with hj|hj
  ·exact h2 j hj (by rw[List.flatten_append];exact List.mem_append.2 (.inr hm))
  ·exact k3 j hj hm
section
variable {F0:List AId}{G0 G:ak}{ps:List LP}
theorem Sp.pick (h:Sp F0 G0 ps G) (js:List Nat) (hn:js.Nodup) (hl:∀ j∈js,j<ps.length):Sp F0 G0 (sel js ps) G:=by
 obtain⟨Fs,h1,h2⟩:=h;obtain⟨k1,k2⟩:=h1.pick hn hl;refine⟨_,k1,h2.ro,h2.others,fun j hj=>h2.row j ?_⟩;obtain⟨k,_,F,hF,hm⟩:=k2 j hj;exact Aj hF j hm
end
end Go.Esc
namespace Go.Esc.M
open Go Go.Esc
section
variable {F0:List AId}{G0 G:ak}{ps:List LP}{Q:ah->ak->Prop}{tb:AId}{t:me}{l:Bool->Ls}{w:Bool->ah}
theorem Sp.BS (h:Sp F0 G0 (jP tb t::ps) G):∃ l w,Sp F0 G0 (nZ tb t l w++ps) G:=by
 obtain⟨Fs,h1,h2⟩:=h;cases Fs with
 | nil=>exact h1.elim
 | cons F Fs=>
  obtain⟨⟨l,w,Es,hE,rfl⟩,h3,h4⟩:=h1;refine⟨l,w,Es++Fs,Sps.cat hE h4 h3,h2.ro,h2.others,fun j hj=>h2.row j ?_⟩;rw[List.flatten_append]at hj;simpa using hj
theorem Sp.qW (h:Sp F0 G0 (nZ tb t l w++ps) G):Sp F0 G0 (jP tb t::ps) G:=by
 obtain⟨Fs,h1,h2⟩:=h;obtain⟨Gs,Es,rfl,k1,k2,k3⟩:=h1.split;refine⟨Gs.flatten::Es,⟨⟨l,w,Gs,k1,rfl⟩,k3,k2⟩,h2.ro,h2.others,fun j hj=>h2.row j ?_⟩;rw[List.flatten_append];simpa using hj
theorem Sp.DQ (s:Sp F0 G0 (nZ tb t l w++ps) G):pw G tb t l w:=by
 have a1:=bm.own (i:=1) s rfl;have a2:=bm.own (i:=2) s rfl;have a3:=bm.own (i:=3) s rfl;have a4:=bm.own (i:=4) s rfl;have a5:=bm.own (i:=5) s rfl;have a6:=bm.own (i:=6) s rfl;have a7:=QuL.qu (i:=7) s rfl;have a8:=QuL.qu (i:=8) s rfl;refine⟨au.own (i:=0) s rfl,fun s=>?_,fun s=>?_,fun s=>?_,fun s=>?_,fun s=>?_,fun s=>?_⟩
 ·cases s
  ·exact⟨a1.leaf,a2.leaf,a3.leaf⟩
  ·exact⟨a4.leaf,a5.leaf,a6.leaf⟩
 ·cases s
  ·exact a7.leaf
  ·exact a8.leaf
 ·cases s
  ·exact Own.nj a1
  ·exact Own.nj a4
 ·cases s
  ·exact Own.nj a2
  ·exact Own.nj a5
 ·cases s
  ·exact Own.nj a3
  ·exact Own.nj a6
 ·cases s
  ·exact a7
  ·exact a8
theorem jP.at_ {F:List AId}(h:(jP tb t).p G F):∃ l w,pw G tb t l w:=by
 obtain⟨l,w,s⟩:=jP.open h;exact⟨l,w,Sp.DQ (ps:=[]) (by simpa using s)⟩
def kq (t:me) (s:Bool) (f:StF):me:=⟨t.c,mg t.f s f,t.q⟩
def oW (t:me) (s:Bool) (q:List cr):me:=⟨t.c,t.f,mg t.q s q⟩
section
variable {n:Nat} (k:kK t n)
include k
theorem DT (h:Sp F0 G0 (nZ tb t l w++ps) G) (s:Bool) {x:ah}(hx:bw x) {K:ak->Prop}
  (hK:∀ G',Sp F0 G0 (au tb (oU t l (mg w s x))::((nZ tb t l w).drop 1++ps)) G'->K G'):wg (aF T G bR (aQ tb s) x) K:=by
 have a:=Sp.DQ h;cases s
 ·exact fg (st1 a.g (a.szl k) rfl rfl gP (kF hx rfl) (by rw[(a.lw false).1,hx.1]) hx.2.2) (hK _ (Sp.setRow (j:=0) h rfl (oU t l (mg w false x))))
 ·exact fg (st1 a.g (a.szl k) rfl rfl gP (kF hx rfl) (by rw[(a.lw true).1,hx.1]) hx.2.2) (hK _ (Sp.setRow (j:=0) h rfl (oU t l (mg w true x))))
theorem DS (h:Sp F0 G0 (nZ tb t l w++ps) G) (s:Bool) {f:StF}(hf:f.s.ok) {x:Ls}(hx:x.lv) {K:ak->Prop}
  (hK:∀ G',Sp F0 G0 (au tb (oU (kq t s f) (mg l s x) w)::((nZ tb t l w).drop 1++ps)) G'->K G'):wg (aF T G aE (aS tb s) (f.s.av x.o x.p x.h)) K:=by
 have a:=Sp.DQ h;cases s
 ·exact fg (st2 a.g (a.szl k) rfl rfl (a.szS k) rfl rfl rfl na (StM.fits hf hx) (by rw[StM.sz (k.f false).ok (a.lv false),StM.sz hf hx]) (StM.okv hx)) (hK _ (Sp.setRow (j:=0) h rfl (oU (kq t false f) (mg l false x) w)))
 ·exact fg (st2 a.g (a.szl k) rfl rfl (a.szS k) rfl rfl rfl na (StM.fits hf hx) (by rw[StM.sz (k.f true).ok (a.lv true),StM.sz hf hx]) (StM.okv hx)) (hK _ (Sp.setRow (j:=0) h rfl (oU (kq t true f) (mg l true x) w)))
end
theorem DR {s:Bool}{f:StF}{x:Ls}{i j m:Nat}{xs:List Nat}(h:Sp F0 G0 (au tb (oU (kq t s f) (mg l s x) w)::((nZ tb t l w).drop 1++ps)) G) (ho:ps[i]?=some (bm 36 x.o (f.o.map aL.av))) (hp:ps[j]?=some (bm 36 x.p (f.p.map aL.av))) (hh:ps[m]?=some (bm 34 x.h (f.h.map b6.av)))
  (hn:(i::j::m::xs).Nodup) (hl:∀ y∈xs,y<ps.length):Sp F0 G0 (jP tb (kq t s f)::sel xs ps) G:=by
 have li:=(List.getElem?_eq_some_iff.1 ho).1;have lj:=(List.getElem?_eq_some_iff.1 hp).1;have lm:=(List.getElem?_eq_some_iff.1 hh).1;have hlen:(au tb (oU (kq t s f) (mg l s x) w)::((nZ tb t l w).drop 1++ps)).length=9+ps.length:=by simp;omega
 have at9:∀ y,(au tb (oU (kq t s f) (mg l s x) w)::((nZ tb t l w).drop 1++ps))[9+y]?=ps[y]?:=by
  intro y;rw[show 9+y=(8+y)+1 by omega,List.getElem?_cons_succ,List.getElem?_append_right (by simp),];simp
 obtain⟨hn1,hn2⟩:=List.nodup_cons.1 hn;obtain⟨hn3,hn4⟩:=List.nodup_cons.1 hn2;obtain⟨hn5,hn6⟩:=List.nodup_cons.1 hn4;simp only[List.mem_cons,not_or]at hn1 hn3;have hsel:sel (xs.map (9+·)) (au tb (oU (kq t s f) (mg l s x) w)::((nZ tb t l w).drop 1++ps))=sel xs ps:=by
  unfold sel;rw[List.filterMap_map];congr 1;funext y;exact at9 y
 have hnx:(xs.map (9+·)).Nodup:=by
  unfold List.Nodup;rw[List.pairwise_map];exact List.Pairwise.imp (fun h e=>h (by omega)) hn6
 have hx9:∀ y∈xs.map (9+·),9≤y/\y<9+ps.length/\y≠9+i/\y≠9+j/\y≠9+m:=by
  intro y hy;obtain⟨z,hz,rfl⟩:=List.mem_map.1 hy;have:=hl z hz;refine⟨by omega,by omega,fun e=>?_,fun e=>?_,fun e=>?_⟩
  ·exact hn1.2.2 (by rwa [show i=z by omega])
  ·exact hn3.2 (by rwa [show j=z by omega])
  ·exact hn5 (by rwa [show m=z by omega])
 cases s
 ·have h2:=Sp.pick h (0::(9+i)::(9+j)::(9+m)::4::5::6::7::8::xs.map (9+·)) (by
   simp only[List.nodup_cons,List.mem_cons,not_or]
   refine⟨⟨by omega,by omega,by omega,by omega,by omega,by omega,by omega,by omega,fun hy=>?_⟩,⟨by omega,by omega,by omega,by omega,by omega,by omega,by omega,fun hy=>?_⟩,⟨by omega,by omega,by omega,by omega,by omega,by omega,fun hy=>?_⟩,⟨by omega,by omega,by omega,by omega,by omega,fun hy=>?_⟩,⟨by omega,by omega,by omega,by omega,fun hy=>?_⟩,⟨by omega,by omega,by omega,fun hy=>?_⟩,⟨by omega,by omega,fun hy=>?_⟩,⟨by omega,fun hy=>?_⟩,⟨fun hy=>?_,hnx⟩⟩<;>(have:=hx9 _ hy;omega)) (by
   intro y hy
   rw[hlen]
   simp only[List.mem_cons]at hy
   rcases hy with rfl|rfl|rfl|rfl|rfl|rfl|rfl|rfl|rfl|hy<;>first|omega|(have:=hx9 _ hy;omega))
  refine Sp.qW (l:=mg l false x) (w:=w) ?_;have e:sel (0::(9+i)::(9+j)::(9+m)::4::5::6::7::8::xs.map (9+·)) (au tb (oU (kq t false f) (mg l false x) w)::((nZ tb t l w).drop 1++ps))=nZ tb (kq t false f) (mg l false x) w++sel xs ps:=by
   rw[<- hsel];unfold sel;simp only[List.filterMap_cons,at9,ho,hp,hh];rfl
  rw[<- e];exact h2
 ·have h2:=Sp.pick h (0::1::2::3::(9+i)::(9+j)::(9+m)::7::8::xs.map (9+·)) (by
   simp only[List.nodup_cons,List.mem_cons,not_or]
   refine⟨⟨by omega,by omega,by omega,by omega,by omega,by omega,by omega,by omega,fun hy=>?_⟩,⟨by omega,by omega,by omega,by omega,by omega,by omega,by omega,fun hy=>?_⟩,⟨by omega,by omega,by omega,by omega,by omega,by omega,fun hy=>?_⟩,⟨by omega,by omega,by omega,by omega,by omega,fun hy=>?_⟩,⟨by omega,by omega,by omega,by omega,fun hy=>?_⟩,⟨by omega,by omega,by omega,fun hy=>?_⟩,⟨by omega,by omega,fun hy=>?_⟩,⟨by omega,fun hy=>?_⟩,⟨fun hy=>?_,hnx⟩⟩<;>(have:=hx9 _ hy;omega)) (by
   intro y hy
   rw[hlen]
   simp only[List.mem_cons]at hy
   rcases hy with rfl|rfl|rfl|rfl|rfl|rfl|rfl|rfl|rfl|hy<;>first|omega|(have:=hx9 _ hy;omega))
  refine Sp.qW (l:=mg l true x) (w:=w) ?_;have e:sel (0::1::2::3::(9+i)::(9+j)::(9+m)::7::8::xs.map (9+·)) (au tb (oU (kq t true f) (mg l true x) w)::((nZ tb t l w).drop 1++ps))=nZ tb (kq t true f) (mg l true x) w++sel xs ps:=by
   rw[<- hsel];unfold sel;simp only[List.filterMap_cons,at9,ho,hp,hh];rfl
  rw[<- e];exact h2
theorem sT {n:Nat}(k:kK t n) {s:Bool}{f:StF}(hf:iY f):kK (kq t s f) n:=
 ⟨k.c,fun r=>by
  by_cases h:r=s
  ·subst h;show iY (mg t.f r f r);rw[ox];exact hf
  ·show iY (mg t.f s f r);rw[qF _ _ h];exact k.f r,k.q,k.n⟩
theorem vD {n m:Nat}(k:kK t n) (hnm:n≤m) {s:Bool}{q:List cr}(hq:∀ x∈q,x.ok) (hl:q.length≤m):kK (oW t s q) m:=
 ⟨k.c,k.f,fun r=>by
  by_cases h:r=s
  ·subst h;show ∀ x∈mg t.q r q r,x.ok;rw[ox];exact hq
  ·show ∀ x∈mg t.q s q r,x.ok;rw[qF _ _ h];exact k.q r,fun r=>by
  by_cases h:r=s
  ·subst h;show (mg t.q r q r).length≤m;rw[ox];exact hl
  ·show (mg t.q s q r).length≤m;rw[qF _ _ h];exact Nat.le_trans (k.n r) hnm⟩
theorem ec.use {u:aL}(h:u.ok) (hQ:∀ G',Ch [] G [] G'->Q (GL u).av G'):al P ec.n [u.av] G Q:=by
 refine ec.sound ?_;unfold ec.S;rw[EW];intro i1 f1;have s1:=(Sp.nil G).row f1 u.av;intro i3 f3;have s3:=s1.row f3 cr.zero.av;obtain⟨u0,u1,u2,u3,u4,_⟩:=bF (i:=1) s3 rfl h;refine ae u0 ?_;refine ae u1 ?_;refine ae u2 ?_;refine ae u3 ?_;refine ae u4 ?_;refine ae (uo (r:=GL u) (fun p hp=>?_) rfl) ?_
 ·simp only[List.mem_cons,List.not_mem_nil,or_false]at hp;rcases hp with rfl|rfl|rfl|rfl|rfl
  ·rfl
  ·rfl
  ·rfl
  ·exact oJ h.hash
  ·rfl
 refine nK (i:=0) s3 rfl cr.bq (vY h) fun G11 s11=>?_;refine ae (cj eQ (au.own (i:=0) s11 rfl) (cr.fits (vY h))) ?_;exact hQ _ s11.ch
theorem dd.use {m:cr}(h:m.ok) (hQ:∀ G',Ch [] G [] G'->Q (Bw m).av G'):al P dd.n [m.av] G Q:=by
 refine dd.sound ?_;unfold dd.S;rw[Dq];intro i1 f1;have s1:=(Sp.nil G).row f1 m.av;intro i3 f3;have s3:=s1.row f3 aL.zero.av;obtain⟨m0,m1,m2,_,_,m5,_,m7,_⟩:=gx (i:=1) s3 rfl h;refine ae m0 ?_;refine ae m1 ?_;refine ae m2 ?_;refine ae m5 ?_;refine ae m7 ?_;refine ae ((kO (zs:=aL.zero.cs) dE rfl rfl rfl (pf rfl) fun p hp=>?_).trans (rfl:_=some (Bw m).av)) ?_
 ·simp only[List.mem_cons,List.not_mem_nil,or_false]at hp;rcases hp with rfl|rfl|rfl|rfl|rfl
  ·rfl
  ·rfl
  ·rfl
  ·exact oJ h.hash
  ·rfl
 refine jY (i:=0) s3 rfl aL.bq (vF h) fun G11 s11=>?_;refine ae (bF (i:=0) s11 rfl (vF h)).2.2.2.2.2 ?_;exact hQ _ s11.ch
theorem LV {s:Bool}{t:TypeId}:az T .eql t (.int .i64 (bI s)) (.int .i64 0)=some (.bool (!s)):=by cases s<;>rfl
theorem LU {s:Bool}{t:TypeId}:az T .eql t (.int .i64 (bI s)) (.int .i64 1)=some (.bool s):=by cases s<;>rfl
theorem cl.use {F:List AId}{n:Nat}{s:Bool}{m:cr}(h:(jP tb t).p G F) (k:kK t n) (hn:n≤100000000) (hm:m.ok) (hQ:∀ F' G',(jP tb (oW t (!s) (t.q (!s)++[m]))).p G' F'->Ch F G F' G'->Q (.tuple []) G') :
  al P cl.n [.ptr tb [] 0,.int .i64 (bI s),m.av] G Q:=by
 refine cl.sound ?_;unfold cl.S;intro i1 f1;have s1:=(Sp.nil G).row f1 m.av;obtain⟨l,w,s2⟩:=Sp.BS (Sp.with h s1);have a:=Sp.DQ s2;have hl:∀ r,(t.q r).length≤100000000:=fun r=>Nat.le_trans (k.n r) hn;have fin:∀ (w':Bool->ah) (G':ak),Sp F G (nZ tb (oW t (!s) (t.q (!s)++[m])) l w'++[au i1 m.av]) G'->Q (.tuple []) G':=by
  intro w' G' sp;have s5:=Sp.qW sp;have s6:Sp F G [jP tb (oW t (!s) (t.q (!s)++[m]))] G':=s5.erase 1;obtain⟨F',h1,h2⟩:=s6.out;exact hQ F' G' h1 h2
 rw[LV,aa];cases s
 ·rw[Bool.not_false,aN];refine ae jm ?_;refine ae CJ ?_;refine ae (a.ldQ k true) ?_;refine ae (gx (i:=9) s2 rfl hm).2.2.2.2.2.2.2.2 ?_;refine K9 (T:=T) (ts:=bR) (e:=aW) (si:=iJ) (ie:=il) (i:=8) gP rfl eQ rfl (by decide) s2 rfl (cr.sz hm) (cr.okv m) (by decide) (by rw[List.length_map];have:=hl true;simp only[il];omega) fun x G11 s11=>?_;refine ae jm ?_;refine ae CJ ?_;have hx:=(QuL.qu (i:=8) s11 rfl).leaf;have g11:=au.own (i:=0) s11 rfl;refine fg (st1 g11 (a.szl k) rfl rfl gP (kF hx rfl) (by rw[(a.lw true).1,hx.1]) hx.2.2) ?_;have s14:=Sp.setRow (j:=0) s11 rfl (oU t l (mg w true x));refine fin (mg w true x) _ ?_;have e:(t.q true).map cr.av++[m.av]=(t.q true++[m]).map cr.av:=by rw[List.map_append];rfl
  rw[e]at s14;exact s14
 ·rw[Bool.not_true,aK];refine ae jm ?_;refine ae CK ?_;refine ae (a.ldQ k false) ?_;refine ae (gx (i:=9) s2 rfl hm).2.2.2.2.2.2.2.2 ?_;refine K9 (T:=T) (ts:=bR) (e:=aW) (si:=iJ) (ie:=il) (i:=7) gP rfl eQ rfl (by decide) s2 rfl (cr.sz hm) (cr.okv m) (by decide) (by rw[List.length_map];have:=hl false;simp only[il];omega) fun x G11 s11=>?_;refine ae jm ?_;refine ae CK ?_;have hx:=(QuL.qu (i:=7) s11 rfl).leaf;have g11:=au.own (i:=0) s11 rfl;refine fg (st1 g11 (a.szl k) rfl rfl gP (kF hx rfl) (by rw[(a.lw false).1,hx.1]) hx.2.2) ?_;have s14:=Sp.setRow (j:=0) s11 rfl (oU t l (mg w false x));refine fin (mg w false x) _ ?_;have e:(t.q false).map cr.av++[m.av]=(t.q false++[m]).map cr.av:=by rw[List.map_append];rfl
  rw[e]at s14;exact s14
end
end Go.Esc.M
namespace Go.Esc
open Go Go.RowKit
section
variable {F0:List AId}{G0 G:ak}{ps:List LP}
theorem u9 {G':ak}{qs:List LP}(h:Sp F0 G0 ps G) (t:Sp [] G qs G'):Sp F0 G0 (qs++ps) G':=by
 obtain⟨Fs,h1,h2⟩:=h;obtain⟨Gs,t1,t2⟩:=t;refine⟨Gs++Fs,Sps.cat t1 (h1.same fun j hj=>t2.same (E:=Fs.flatten) h1.rows (by simp) j hj) fun j hj hm=>?_,h2.trans ?_⟩
 ·rcases t2.row j hj with h'|h'
  ·simp at h'
  ·have:=h1.rows j hm;rw[h']at this;cases this
 ·have:=t2.more (E:=Fs.flatten);simpa using this
end
end Go.Esc
namespace Go.Esc.M
open Go Go.Esc
section
variable {T:Tbl}{G:ak}{id:AId}{cs ds es:List ah}{ss ss2 ss3:List Nat}{k j m o o2 o3 oo:Nat}{c u:ah}{t:TypeId}{ti:TI}
theorem ld3 (hg:G id=some (.own (.agg cs))) (hs:cs.map sz=ss) (ho:(ss.take k).sum=o) (hc:cs[k]?=some (.agg ds)) (hs2:ds.map sz=ss2) (ho2:(ss2.take j).sum=o2) (hc2:ds[j]?=some (.agg es)) (hs3:es.map sz=ss3) (ho3:(ss3.take m).sum=o3) (hc3:es[m]?=some c)
  (hoo:o+(o2+o3)=oo) (ht:T t=some ti) (hf:dD ti c=true):ag T G t (.ptr id [k,j,m] oo)=some c:=by
 subst hoo;have e1:=pA hs ho;have e2:=pA hs2 ho2;have e3:=pA hs3 ho3;simp[ag,nI,hg,mQ,sub,e1,e2,e3,hc,hc2,hc3,ht,hf]
theorem st3 (hg:G id=some (.own (.agg cs))) (hs:cs.map sz=ss) (ho:(ss.take k).sum=o) (hc:cs[k]?=some (.agg ds)) (hs2:ds.map sz=ss2) (ho2:(ss2.take j).sum=o2) (hc2:ds[j]?=some (.agg es)) (hs3:es.map sz=ss3) (ho3:(ss3.take m).sum=o3) (hc3:es[m]?=some u)
  (hoo:o+(o2+o3)=oo) (ht:T t=some ti) (hf:dD ti c=true) (hsz:sz u=sz c) (hok:okv c=true) :
  aF T G t (.ptr id [k,j,m] oo) c=some (G.upd id (.own (.agg (cs.set k (.agg (ds.set j (.agg (es.set m c)))))))):=by
 subst hoo;have e1:=pA hs ho;have e2:=pA hs2 ho2;have e3:=pA hs3 ho3;simp[aF,hg,sub,e1,e2,e3,hc,hc2,hc3,ht,hf,hsz,hok,putAt]
end
def sL (c:CfM) (f f':StF) (r:RcM):List cr:=
 if r.kind=1 then [GL r.upd] else if r.kind=2 then [tI c f'] else if r.kind=3 then [qC c f.s.loc] else []
def uD (t:me) (s:Bool) (r:RcM) (f':StF):me:=oW (kq t s f') (!s) (t.q (!s)++sL (t.c s) (t.f s) f' r)
def yE (m:cr) (o:jj):cr:={ m with index:=IntKind.i64.wrap (m.index+o.index),hash:=if o.note=[98,101,110,100] then o.hash else m.hash }
theorem wE {m:cr}{o:jj}(h:m.ok) (ho:o.ok):(yE m o).ok:=by
 refine⟨h.kind,h.id,h.amount,LM _,h.next,?_,h.secret,h.note⟩;show (if o.note=[98,101,110,100] then o.hash else m.hash).length=32;split
 ·exact ho.hash
 ·exact h.hash
theorem EZ (t:me) (s:Bool):oW t s (t.q s)=t:=by
 have:mg t.q s (t.q s)=t.q:=by
  funext r;by_cases h:r=s
  ·subst h;rw[ox]
  ·rw[qF _ _ h]
 show (⟨t.c,t.f,mg t.q s (t.q s)⟩:me)=t;rw[this]
theorem I0 {c:CfM}{f f':StF}{r:RcM}(hc:c.ok) (hr:r.ok) (h:f.s.ok) (h':f'.s.ok):∀ m∈sL c f f' r,m.ok:=by
 intro m hm;unfold sL at hm;split at hm
 ·rw[List.mem_singleton.1 hm];exact vY hr.upd
 split at hm
 ·rw[List.mem_singleton.1 hm];exact xT h'
 split at hm
 ·rw[List.mem_singleton.1 hm];exact ve hc h.loc
 ·cases hm
theorem xn (c:CfM) (f f':StF) (r:RcM):(sL c f f' r).length≤1:=by
 unfold sL;split
 ·simp
 split
 ·simp
 split<;>simp
theorem CR {t:me}{n:Nat}(k:kK t n) {s:Bool}{r:RcM}{f':StF}(hr:r.ok) (I:iY f'):kK (uD t s r f') (n+1):=by
 refine vD (sT k I) (by omega) (fun m hm=>?_) ?_
 ·rcases List.mem_append.1 hm with hm|hm
  ·exact k.q _ m hm
  ·exact I0 (k.c s) hr (k.f s).ok I.ok m hm
 ·rw[List.length_append];have:=k.n (!s);have:=xn (t.c s) (t.f s) f' r;omega
section
variable {F0:List AId}{G0 G:ak}{ps:List LP}{Q:ah->ak->Prop}{tb:AId}{t:me}{l:Bool->Ls}{w:Bool->ah}
theorem KA {v:ah}{l:List cr}{j:Nat}{u:cr}(h:ff 70 G v (l.map cr.av)) (hj:l[j]?=some u):∃ a,aO T bR v (.int .i64 (j:Int))=some a/\ag T G aW a=some u.av:=
 h.at_ (k:=.i64) (i:=iJ) (ie:=il) (T:=T) (t:=bR) (e:=aW) gP rfl eQ (by rw[List.getElem?_map,hj];rfl) rfl
theorem Jf {v:ah}{l:List cr}(h:ff 70 G v (l.map cr.av)):fU T G bR v=some (.int .i64 (l.length:Nat)):=by
 rw[h.len (i:=iJ) gP rfl,List.length_map]
theorem Kh (s:Bool):bt T aE (aS tb s) 6=some (.ptr tb [1,bN s,6] (328+(bN s*115+6))):=by cases s<;>rfl
theorem pw.Mo {n:Nat}(h:pw G tb t l w) (k:kK t n) (s:Bool):ag T G aq (.ptr tb [1,bN s,6] (328+(bN s*115+6)))=some (.int .i64 (t.f s).s.loc):=by
 cases s
 ·exact ld3 h.g (h.szl k) rfl rfl (h.szS k) rfl rfl (StM.szl (k.f false).ok (h.lv false)) rfl rfl rfl cu rfl
 ·exact ld3 h.g (h.szl k) rfl rfl (h.szS k) rfl rfl (StM.szl (k.f true).ok (h.lv true)) rfl rfl rfl cu rfl
theorem II {l':Bool->Ls}{w':Bool->ah}(h:oU t l w=oU t l' w'):w=w':=by
 unfold oU at h;injection h with h;injection h with _ h;injection h with _ h;injection h with h1 h;injection h with h2 _;funext s;cases s
 ·exact h1
 ·exact h2
theorem b9.use {F:List AId}{n:Nat}{s:Bool}{r:RcM}{lu:List aL}{v:ah}{f':StF}(h:(jP tb t).p G F) (k:kK t n) (hn:n≤99999999) (hr:r.ok) (hv:bw v) (hl:ff 36 G v (lu.map aL.av)) (okl:∀ u∈lu,u.ok) (hll:lu.length≤4096)
  (ap:Bb (t.f s) r lu f') (I:iY f') (hQ:∀ F' G',(jP tb (uD t s r f')).p G' F'->Ch F G F' G'->Q (.tuple []) G') :
  al P b9.n [.ptr tb [] 0,.int .i64 (bI s),r.av v] G Q:=by
 refine b9.sound ?_;unfold b9.S;obtain⟨l,w,a⟩:=jP.at_ h;have J:=k.f s;have hlo:=J.lo;have hlp:=J.lp;intro i1 f1;have s1:=(Sp.nil G).row f1 (r.av v);refine ae jm ?_;refine ae qO ?_;refine ae (qM s) ?_;refine ae ((a.mv s1.ch).ldS k s) ?_;refine ae (Rc.ld (au.own (i:=0) s1 rfl) hr hv) ?_;refine dX.use ((a.mv s1.ch).IV k s) hr hv (hl.ch' s1.ch) okl hll (by omega) (by omega) J.lh ap fun wo wp wh G9 t9=>?_;have s9:Sp [] G [bm 34 wh (f'.h.map b6.av),bm 36 wp (f'.p.map aL.av),bm 36 wo (f'.o.map aL.av),au i1 (r.av v)] G9:=u9 s1 t9;have lx:Ls.lv ⟨wo,wp,wh⟩:=⟨(bm.own (i:=2) s9 rfl).leaf,(bm.own (i:=1) s9 rfl).leaf,(bm.own (i:=0) s9 rfl).leaf⟩;refine ae (tv0 _ _) ?_;refine ae (tv1 _ _) ?_;refine St.nw s9 I.ok lx fun i12 G14 s14=>?_;have s14:Sp [] G [au i12 (f'.s.av wo wp wh),bm 34 wh (f'.h.map b6.av),bm 36 wp (f'.p.map aL.av),bm 36 wo (f'.o.map aL.av),au i1 (r.av v)] G14:=s14;rw[dx,aa,Bool.not_true,aK];refine ae jm ?_;refine ae qO ?_;refine ae (qM s) ?_;refine ae (Kh s) ?_;refine ae ((a.mv s14.ch).Mo k s) ?_;refine ae (St.ld (au.own (i:=0) s14 rfl) I.ok lx) ?_;refine ae jm ?_;refine ae qO ?_;refine ae (qM s) ?_;obtain⟨l',w',S14⟩:=Sp.BS (Sp.with h s14);refine DS k S14 s I.ok (x:=⟨wo,wp,wh⟩) lx fun G25 s25=>?_;have hS:ka G25 f' wo wp wh:=by
  have b1:=bm.own (i:=12) s25 rfl;have b2:=bm.own (i:=11) s25 rfl;have b3:=bm.own (i:=10) s25 rfl;have:=I.lo;have:=I.lp;have:=I.lh;exact⟨I.ok,Own.nj b1,Own.nj b2,Own.nj b3,I.oko,I.okp,I.okh,by omega,by omega,by omega⟩
 have S25:=DR (ps:=[au i12 (f'.s.av wo wp wh),bm 34 wh (f'.h.map b6.av),bm 36 wp (f'.p.map aL.av),bm 36 wo (f'.o.map aL.av),au i1 (r.av v)]) (x:=⟨wo,wp,wh⟩) (i:=3) (j:=2) (m:=1) (xs:=[0,4]) s25 rfl rfl rfl (by decide) (by intro y hy;simp at hy ⊢;omega);have S25:Sp F G [jP tb (kq t s f'),au i12 (f'.s.av wo wp wh),au i1 (r.av v)] G25:=S25;have k':=sT k (s:=s) I;have hqq:(kq t s f').q=t.q:=rfl;have fin:∀ {G2:ak}{m:cr}{K:ah->ak->Prop},Sp F G [jP tb (kq t s f'),au i12 (f'.s.av wo wp wh),au i1 (r.av v)] G2->m.ok->sL (t.c s) (t.f s) f' r=[m]->(∀ F' G',(jP tb (uD t s r f')).p G' F'->Ch F G F' G'->K (.tuple []) G') ->
   al P cl.n [.ptr tb [] 0,.int .i64 (bI s),m.av] G2 K:=by
  intro G2 m K sp hm he hK;have ep:uD t s r f'=oW (kq t s f') (!s) ((kq t s f').q (!s)++[m]):=by unfold uD;rw[he];rfl
  refine sp.call (i:=0) rfl (jP tb (uD t s r f')) fun F1 h1 kk=>?_;refine cl.use h1 k' (by omega) hm fun F2 G3 h2 c2=>?_;rw[<- ep]at h2;have s3:=kk F2 G3 h2 c2;have s4:Sp F G [jP tb (uD t s r f')] G3:=(s3.erase 1).erase 1;obtain⟨F',q1,q2⟩:=s4.out;exact hK F' G3 q1 q2
 have hr1:=au.own (i:=2) S25 rfl;refine ae (Rc.sj hr1 hr hv) ?_;rw[bB,aa,aI];refine⟨fun hk=>?_,fun hk1=>?_⟩
 ·refine ae (Rc.Al hr1 hr hv) ?_;refine ec.use hr.upd fun G30 c30=>?_;exact fin (S25.tmp c30) (vY hr.upd) (by unfold sL;rw[if_pos hk]) hQ
 ·rw[bB,aa,aI];refine⟨fun hk=>?_,fun hk2=>?_⟩
  ·obtain⟨F1,hF1⟩:=S25.get (i:=0) rfl;obtain⟨l2,w2,a2⟩:=jP.at_ hF1;refine ae jm ?_;refine ae qP ?_;refine ae (qN s) ?_;refine ae (a2.ldC k' s) ?_;refine ae (St.ld (au.own (i:=1) S25 rfl) I.ok lx) ?_;refine ef.use hS I (k.c s) fun G40 c40=>?_;exact fin (S25.tmp c40) (xT I.ok) (by unfold sL;rw[if_neg hk1,if_pos hk];rfl) hQ
  ·rw[bB,aa,aI];refine⟨fun hk=>?_,fun hk3=>?_⟩
   ·obtain⟨F1,hF1⟩:=S25.get (i:=0) rfl;obtain⟨l2,w2,a2⟩:=jP.at_ hF1;refine ae jm ?_;refine ae qP ?_;refine ae (qN s) ?_;refine ae (a2.ldC k' s) ?_;refine dF.use (k.c s) fun G49 c49=>?_;exact fin (S25.tmp c49) (ve (k.c s) J.ok.loc) (by unfold sL;rw[if_neg hk1,if_neg hk2,if_pos hk];rfl) hQ
   ·have ep:uD t s r f'=kq t s f':=by
     unfold uD sL;rw[if_neg hk1,if_neg hk2,if_neg hk3,List.append_nil];exact EZ (kq t s f') (!s)
    rw[ep]at hQ;have s4:Sp F G [jP tb (kq t s f')] G25:=(S25.erase 1).erase 1;obtain⟨F',q1,q2⟩:=s4.out;exact hQ F' G25 q1 q2
theorem df.use {F:List AId}{n:Nat}{s:Bool}{o:jj}(h:(jP tb t).p G F) (k:kK t n) (hn:n≤99999999) (ho:o.ok) (hQ0:t.q s=[]->∀ G',Ch [] G [] G'->Q (.tuple [cr.zero.av,.bool false]) G')
  (hQ1:∀ m ms,t.q s=m::ms->∀ F' G',(jP tb (oW t s ms)).p G' F'->Ch F G F' G'->Q (.tuple [(yE m o).av,.bool true]) G') :
  al P df.n [.ptr tb [] 0,.int .i64 (bI s),o.av] G Q:=by
 refine df.sound ?_;unfold df.S;obtain⟨l,w,a⟩:=jP.at_ h;rw[EW];intro i1 f1;have s1:=(Sp.nil G).row f1 o.av;intro i3 f3;have s3:=s1.row f3 cr.zero.av;revert s3;generalize ak.upd _ i3 _=G4;intro s3;rw[<- EW];have a4:=a.mv s3.ch;refine ae jm ?_;refine ae CK ?_;refine ae (a4.ldQ k false) ?_;rw[LU,aa];intro J53;have go:J53 (w s) G4:=by
  simp -zeta only [J53];have hq:=a4.q s;have hls:=k.n s;refine ae (Jf hq.is) ?_;rw[bB,aa,aI];refine⟨fun h0=>?_,fun h0=>?_⟩
  ·have he:t.q s=[]:=List.length_eq_zero_iff.1 (by omega);refine ae (v:=cr.zero.av) rfl ?_;refine nK (i:=0) s3 rfl cr.bq cr.bq fun G17 s17=>?_;refine ae (cj eQ (au.own (i:=0) s17 rfl) (cr.fits cr.bq)) ?_;exact hQ0 he _ s17.ch
  ·obtain⟨m,ms,he⟩:∃ m ms,t.q s=m::ms:=by
    cases hc:t.q s with
    | nil=>rw[hc]at h0;exact absurd rfl h0
    | cons m ms=>exact⟨m,ms,rfl⟩
   have hm:m.ok:=k.q s m (by rw[he];simp);obtain⟨p,p1,p2⟩:=KA (j:=0) (u:=m) hq.is (by rw[he];rfl);refine ae p1 ?_;refine ae p2 ?_;refine Kz s3 hm fun i21 G23 s23=>?_;have s23:Sp [] G [au i21 m.av,au i3 cr.zero.av,au i1 o.av] G23:=s23;rw[aa];have hQ1:=hQ1 m ms he;intro J52;have last:∀ G33,Sp F G [jP tb (oW t s ms),au i21 m.av,au i3 cr.zero.av,au i1 o.av] G33->J52 G33:=by
    intro G33 S33;simp -zeta only [J52];refine ae (gx (i:=1) S33 rfl hm).2.2.2.1 ?_;refine ae (Oq.ni (au.own (i:=3) S33 rfl) ho) ?_;rw[bg,aa];refine HM _ (i:=1) S33 rfl fun G37 S37=>?_;have hm1:({ m with index:=IntKind.i64.wrap (m.index+o.index) }:cr).ok:=⟨hm.kind,hm.id,hm.amount,LM _,hm.next,hm.hash,hm.secret,hm.note⟩;have fin:∀ {G2:ak}{x:cr},Sp F G [jP tb (oW t s ms),au i21 x.av,au i3 cr.zero.av,au i1 o.av] G2->x=yE m o->wv (ag T G2 aW (.ptr i21 [] 0)) fun v46=>wg (aF T G2 aW (.ptr i3 [] 0) v46) fun G47=>wv (ag T G47 aW (.ptr i3 [] 0)) fun v48=>Q (.tuple [v48,.bool true]) G47:=by
     intro G2 x S2 hx;have hxo:x.ok:=(by rw[hx];exact wE hm ho);refine ae (gx (i:=1) S2 rfl hxo).2.2.2.2.2.2.2.2 ?_;refine nK (i:=2) S2 rfl cr.bq hxo fun G47 S47=>?_;refine ae (cj eQ (au.own (i:=2) S47 rfl) (cr.fits hxo)) ?_;rw[hx];have S48:Sp F G [jP tb (oW t s ms)] G47:=((S47.erase 1).erase 1).erase 1;obtain⟨F',q1,q2⟩:=S48.out;exact hQ1 F' G47 q1 q2
    refine ae (Oq.zc (au.own (i:=3) S37 rfl) ho) ?_;rw[pL,aa,aI];refine⟨fun hb=>?_,fun hb=>?_⟩
    ·refine ae (Oq.sk (au.own (i:=3) S37 rfl) ho) ?_;refine Jg ho.hash hm1 (i:=1) S37 rfl fun G41 S41=>?_;exact fin S41 (by unfold yE;rw[if_pos hb])
    ·exact fin S37 (by unfold yE;rw[if_neg hb])
   obtain⟨l',w',S23⟩:=Sp.BS (Sp.with h s23);have ew:w=w':=by
    have g1:=(a.mv s23.ch).g;have g2:=(Sp.DQ S23).g;rw[g1]at g2;injection g2 with g2;injection g2 with g2;exact II g2
   subst ew;have hq23:=(Sp.DQ S23).q s;rw[he]at hq23;obtain⟨x,x1,x2,x3⟩:=Qu.rest (T:=T) (ts:=bR) (e:=aW) (si:=iJ) (ie:=il) (vs:=ms.map cr.av) gP rfl eQ hq23;have lx:=x2.leaf;cases s
   ·rw[aK];refine ae x1 ?_;refine ae jm ?_;refine ae CK ?_;refine DT k S23 false lx fun G28 S28=>?_;refine last _ ?_;have S29:=S28.call (i:=7) rfl (QuL 70 x (ms.map cr.av)) (X:=Sp F G (au tb (oU t l' (mg w false x))::(((nZ tb t l' w).drop 1++[au i21 m.av,au i3 cr.zero.av,au i1 o.av]).set 6 (QuL 70 x (ms.map cr.av)))) G28) fun F1 hF1 kk=>by
     obtain⟨qq,rfl⟩:=hF1;rw[he]at qq;obtain⟨y,y1,y2,y3⟩:=Qu.rest (T:=T) (ts:=bR) (e:=aW) (si:=iJ) (ie:=il) (vs:=ms.map cr.av) gP rfl eQ qq;rw[x1]at y1;injection y1 with y1;subst y1;exact kk _ G28 ⟨y2,rfl⟩ (by rw[y3];exact Ch.refl _ _)
    exact Sp.qW (t:=oW t false ms) (l:=l') (w:=mg w false x) S29
   ·rw[aN];refine ae x1 ?_;refine ae jm ?_;refine ae CJ ?_;refine DT k S23 true lx fun G28 S28=>?_;refine last _ ?_;have S29:=S28.call (i:=8) rfl (QuL 70 x (ms.map cr.av)) (X:=Sp F G (au tb (oU t l' (mg w true x))::(((nZ tb t l' w).drop 1++[au i21 m.av,au i3 cr.zero.av,au i1 o.av]).set 7 (QuL 70 x (ms.map cr.av)))) G28) fun F1 hF1 kk=>by
     obtain⟨qq,rfl⟩:=hF1;rw[he]at qq;obtain⟨y,y1,y2,y3⟩:=Qu.rest (T:=T) (ts:=bR) (e:=aW) (si:=iJ) (ie:=il) (vs:=ms.map cr.av) gP rfl eQ qq;rw[x1]at y1;injection y1 with y1;subst y1;exact kk _ G28 ⟨y2,rfl⟩ (by rw[y3];exact Ch.refl _ _)
    exact Sp.qW (t:=oW t true ms) (l:=l') (w:=mg w true x) S29
 cases s
 ·rw[aK];exact go
 ·rw[aN];refine ae jm ?_;refine ae CJ ?_;refine ae (a4.ldQ k true) ?_;exact go
end
end Go.Esc.M
namespace Go.Esc.M
open Go Go.Esc
def zg:StF:=⟨StM.zero,[],[],[]⟩
theorem iY.zero:iY zg:=by
 have nn:∀ {X:List aL},o7 [] X:=fun {X} j u hj=>by simp at hj
 have e0:∀ {a:Int}{n m:Nat},SB a [] [] n m=a:=by intro a n m;simp[SB,gG]
 have on:∀ {a:Int},kX [] [] a≤483:=by intro a;simp[kX,ml]
 have z0:(0:Int)≤0:=by decide
 have z1:(0:Int)≤281474976710654:=by decide
 have z2:(0:Int)≤1152921504606846976:=by decide
 refine⟨StM.bq,by simp[zg],by simp[zg],by simp[zg],by simp[zg],z0,z0,z0,z0,z0,z0,z0,z0,nn,nn,?_,?_,on,on,z0,z0,rfl,z2,.inl rfl,z0,z1,z0,.inl rfl,z1⟩
 ·show 0≤SB 0 [] [] 0 0;rw[e0];omega
 ·show 0≤SB 0 [] [] 0 0;rw[e0];omega
def AL (d:DlM) (s:Bool):CfM:=bif s then FV d else FW d
theorem Db {d:DlM}(h:d.ok) (s:Bool):(AL d s).ok:=by
 cases s
 ·exact Dd h
 ·exact Dc h
def tc (c:CfM):StF:=⟨(mm c).1,[],[],[]⟩
def EI (c:Bool->CfM):me:=⟨c,fun _=>zg,fun _=>[]⟩
def LS (c:Bool->CfM):me:=⟨c,fun s=>tc (c s),fun _=>[]⟩
def Ig (d:DlM):me:=LS (AL d)
theorem Hk {c:Bool->CfM}(h:∀ s,(c s).ok):kK (EI c) 0:={ c:=h,f:=fun _=>iY.zero,q:=fun s m hm=>absurd hm List.not_mem_nil,n:=fun s=>Nat.le_refl 0 }
theorem KW (c:Bool->CfM):kq (kq (EI c) false (tc (c false))) true (tc (c true))=LS c:=by
 show (⟨c,mg (mg (fun _=>zg) false (tc (c false))) true (tc (c true)),fun _=>[]⟩:me)=⟨c,fun s=>tc (c s),fun _=>[]⟩;congr 1;funext s;cases s<;>rfl
def GK:Bool->Ls:=fun _=>⟨.nilSlice,.nilSlice,.nilSlice⟩
def Kw:Bool->ah:=fun _=>.nilSlice
theorem Ib {c:Bool->CfM}(hc:∀ s,(c s).ok):bj T bz [(0,nU (c false) (c true))]=some (oU (EI c) GK Kw):=by
 have hcz:Esc.sz (nU (c false) (c true))=Esc.sz (nU CfM.zero CfM.zero):=by
  simp[nU,Esc.sz,szs,CfM.sz (hc false),CfM.sz (hc true),CfM.sz CfM.bq]
 refine (kO (zs:=[nU CfM.zero CfM.zero,.agg [StM.zero.av .nilSlice .nilSlice .nilSlice,StM.zero.av .nilSlice .nilSlice .nilSlice],.nilSlice,.nilSlice]) uG rfl rfl rfl (pf rfl) fun p hp=>?_).trans rfl;rw[List.mem_singleton.1 hp];exact congrArg some hcz.symm
section
variable {F0:List AId}{G0 G:ak}{ps:List LP}{Q:ah->ak->Prop}{tb:AId}{t:me}{l:Bool->Ls}{w:Bool->ah}
theorem Ky {c:Bool->CfM}{K:AId->ak->Prop}(h:Sp F0 G0 ps G) (hK:∀ i G',Sp F0 G0 (jP i (EI c)::ps) G'->K i G'):br G (.own (oU (EI c) GK Kw)) K:=by
 intro i f;have s7:=((((((((h.nz 70).nz 70).nz 34).nz 36).nz 36).nz 34).nz 36).nz 36).row f (oU (EI c) GK Kw);have s8:=bm.qu (i:=7) s7 rfl;have s9:=bm.qu (i:=8) s8 rfl;exact hK i _ (Sp.qW (t:=EI c) (l:=GK) (w:=Kw) (ps:=ps) s9)
theorem AX {tb:AId}{c:Bool->CfM}{t:me}{s:Bool}{K:ak->Prop}{R:ak->Prop}(h:Sp F0 G0 [jP tb t] G) (k:kK t 0) (hco:(c s).ok) (hc:t.c s=c s)
  (bad:nF (c s)->∀ i G',Sp F0 G0 [au i ((mm (c s)).1.av .nilSlice .nilSlice .nilSlice),jP tb t] G'->K G')
  (lK:¬ nF (c s)->∀ G',Sp F0 G0 [jP tb (kq t s (tc (c s)))] G'->R G') :
  wv (lr (.ptr tb [] 0)) fun v14=>wv (bt T bz v14 0) fun v15=>wv (aO T cJ v15 (.int .i64 (bI s))) fun v16=>wv (ag T G bU v16) fun v17=>al P dK.n [v17] G fun v18 G19=>wv (aP v18 0) fun v20=>wv (aP v18 1) fun v21=>br G19 (.own (hO)) fun i22 G23=>wg (aF T G23 aE (.ptr i22 [] 0) v20) fun G24=>wv (az T .neq bD v21 (.int .i64 0)) fun v25=>brB (some v25)
 (K G24)
 (wv (ag T G24 aE (.ptr i22 [] 0)) fun v26=>wv (lr (.ptr tb [] 0)) fun v27=>wv (bt T bz v27 1) fun v28=>wv (aO T gQ v28 (.int .i64 (bI s))) fun v29=>wg (aF T G24 aE v29 v26) fun G30=>R G30):=by
 obtain⟨F1,hF1⟩:=h.get (i:=0) rfl;obtain⟨l,w,a⟩:=jP.at_ hF1;refine ae jm ?_;refine ae qP ?_;refine ae (qN s) ?_;refine ae (a.ldC k s) ?_;rw[hc];have hok:=pN hco;have hes:(mm (c s)).2=if nF (c s) then 1 else 0:=by unfold mm;split<;>rfl
 have hf:tc (c s)=⟨(mm (c s)).1,[],[],[]⟩:=rfl;rw[hf]at lK;refine dK.use hco fun G19 c19=>?_;have S19:Sp F0 G0 [jP tb t] G19:=h.tmp c19;generalize mm (c s)=X at hok hes lK bad;obtain⟨X,e⟩:=X;simp only at hok hes lK bad;refine ae (tv0 _ _) ?_;refine ae (tv1 _ _) ?_;refine St.nw S19 hok lv0 fun i22 G24 s24=>?_;rw[cD,aa,dC];refine⟨fun h0=>?_,fun h0=>?_⟩
 ·refine bad ?_ i22 G24 s24;refine Classical.byContradiction fun hn=>h0 ?_;rw[if_neg hn]at hes;exact hes
 ·have hn:¬ nF (c s):=by
   intro hh;have h0:e=0:=h0;rw[if_pos hh,h0]at hes;exact absurd hes (by decide)
  refine ae (St.ld (au.own (i:=0) s24 rfl) hok lv0) ?_;refine ae jm ?_;refine ae qO ?_;refine ae (qM s) ?_;have s25:=Sp.pick (((s24.nz 34).nz 36).nz 36) [4,0,1,2] (by decide) (by intro y hy;simp at hy ⊢;omega);have s25:Sp F0 G0 [jP tb t,bm 36 .nilSlice [],bm 36 .nilSlice [],bm 34 .nilSlice []] G24:=s25;obtain⟨l',w',S25⟩:=Sp.BS s25;refine DS k S25 s (f:=⟨X,[],[],[]⟩) hok (x:=⟨.nilSlice,.nilSlice,.nilSlice⟩) lv0 fun G30 s30=>?_;have S30:=DR (f:=⟨X,[],[],[]⟩) (ps:=[bm 36 .nilSlice [],bm 36 .nilSlice [],bm 34 .nilSlice []]) (x:=⟨.nilSlice,.nilSlice,.nilSlice⟩) (i:=0) (j:=1) (m:=2) (xs:=[]) s30 rfl rfl rfl (by decide) (by intro y hy;cases hy);exact lK hn G30 S30
theorem fC.use {d:DlM}(hd:d.ok) (hQ0:(∃ s,nF (AL d s))->∀ G',Ch [] G [] G'->Q (.tuple [.nilPtr,.bool false]) G')
  (hQ1:(∀ s,¬ nF (AL d s))->∀ tb G',Sp [] G [jP tb (Ig d)] G'->Q (.tuple [.ptr tb [] 0,.bool true]) G'):al P fC.n [d.av] G Q:=by
 refine fC.sound ?_;unfold fC.S;intro i1 f1;have s1:=(Sp.nil G).row f1 d.av;refine ae (Dl.ld (au.own (i:=0) s1 rfl) hd) ?_;refine cQ.use hd fun G5 c5=>?_;have s5:Sp [] G [au i1 d.av] G5:=s1.tmp c5;have hok:=Db hd;unfold Ig at hQ1;have e0:FW d=AL d false:=rfl;have e1:FV d=AL d true:=rfl;rw[e0,e1];clear e0 e1;generalize AL d=c at *;refine ae (Ib hok) ?_;refine Ky s5 fun i7 G8 S8=>?_;have S8:Sp [] G [jP i7 (EI c)] G8:=S8.erase 1;intro R9 hR;refine hR _ _ _ ?_;rw[aM,aa,dT_ (by decide),aN];refine AX (s:=false) (R:=fun G30=>wv (az T .add ay (.int .i64 0) (.int .i64 1)) fun v31=>R9 [.ptr i7 [] 0,v31] G30) S8 (Hk hok) (hok false) rfl (fun h i G' s=>hQ0 ⟨_,h⟩ G' s.ch) fun h0 G2 S2=>?_;rw[bg,i64_in (by decide) (by decide),aa];refine hR _ _ _ ?_;rw[aM,aa,dT_ (by decide),aN];refine AX (s:=true) (R:=fun G30=>wv (az T .add ay (.int .i64 1) (.int .i64 1)) fun v31=>R9 [.ptr i7 [] 0,v31] G30) S2 (sT (Hk hok) (iY.start (hok false) h0)) (hok true) rfl (fun h i G' s=>hQ0 ⟨_,h⟩ G' s.ch) fun h1 G3 S3=>?_;rw[KW]at S3;rw[bg,i64_in (by decide) (by decide),aa];refine hR _ _ _ ?_;rw[aM,aa,dF_ (by decide),aK];exact hQ1 (fun s=>by cases s;exact h0;exact h1) i7 G3 S3
def lD (f:StF) (o:jj):RcM×Int:=
 if o.kind=1 then n8 f o.amount o.hash else if o.kind=2 then j4 f ⟨2,o.id,0,o.hash,[]⟩ else if o.kind=3 then j4 f ⟨3,o.id,0,h0,o.note⟩ else if o.kind=4 then p6 f else noR 1
theorem zok:RcM.zero.ok:=RcM.bq
theorem Jd {f:StF}{a:Int}{h:List UInt8}(h0:(n8 f a h).2≠0):(n8 f a h).1=RcM.zero:=by
 unfold n8 at h0 ⊢;split
 ·rfl
 split
 ·rfl
 split
 ·rfl
 split
 ·rfl
 split
 ·rfl
 ·rename_i h1 h2 h3 h4 h5;rw[if_neg h1,if_neg h2,if_neg h3,if_neg h4,if_neg h5]at h0;exact absurd rfl h0
theorem Ko {f:StF}(h0:(p6 f).2≠0):(p6 f).1=RcM.zero:=by
 unfold p6 at h0 ⊢;split
 ·rfl
 split
 ·rfl
 split
 ·rfl
 ·rename_i h1 h2 h3;rw[if_neg h1,if_neg h2,if_neg h3]at h0;exact absurd rfl h0
theorem Fq {f:StF}{m:cr}(h0:(jR f m).2≠0):(jR f m).1=RcM.zero:=by
 unfold jR at h0 ⊢;split
 ·rfl
 split
 ·rfl
 split
 ·rfl
 split
 ·rfl
 split
 ·rfl
 ·rename_i h1 h2 h3 h4 h5;rw[if_neg h1,if_neg h2,if_neg h3,if_neg h4,if_neg h5]at h0;exact absurd rfl h0
theorem Hf {c:CfM}{f:StF}{m:cr}(h0:(mU c f m).e≠0):(mU c f m).r=RcM.zero/\(mU c f m).l=[]:=by
 unfold mU at h0 ⊢;split
 ·exact⟨rfl,rfl⟩
 split
 ·exact⟨rfl,rfl⟩
 split
 ·exact⟨rfl,rfl⟩
 split
 ·exact⟨rfl,rfl⟩
 split
 ·exact⟨rfl,rfl⟩
 ·rename_i h1 h2 h3 h4 h5;rw[if_neg h1,if_neg h2,if_neg h3,if_neg h4,if_neg h5]at h0;exact absurd rfl h0
theorem IB {o:jj}(ho:o.ok):(⟨2,o.id,0,o.hash,[]⟩:aL).ok:=⟨iu 2 (by decide) (by decide),ho.id,cL,ho.hash,by simp⟩
theorem Iy {o:jj}(ho:o.ok):(⟨3,o.id,0,h0,o.note⟩:aL).ok:=⟨iu 3 (by decide) (by decide),ho.id,cL,rfl,ho.note⟩
theorem Gr (i:Int) (h:List UInt8):dp ⟨2,i,0,h,[]⟩=true\/64<(⟨2,i,0,h,[]⟩:aL).note.length\/(⟨2,i,0,h,[]⟩:aL).id<0\/2048≤(⟨2,i,0,h,[]⟩:aL).id:=by
 show dp ⟨2,i,0,h,[]⟩=true\/64<([]:List UInt8).length\/i<0\/2048≤i;by_cases h1:i<0
 ·exact .inr (.inr (.inl h1))
 by_cases h2:2048≤i
 ·exact .inr (.inr (.inr h2))
 refine .inl ?_;unfold dp;simp;omega
theorem Gq (i:Int) (n:List UInt8):dp ⟨3,i,0,h0,n⟩=true\/64<(⟨3,i,0,h0,n⟩:aL).note.length\/(⟨3,i,0,h0,n⟩:aL).id<0\/2048≤(⟨3,i,0,h0,n⟩:aL).id:=by
 show dp ⟨3,i,0,h0,n⟩=true\/64<n.length\/i<0\/2048≤i;by_cases h1:i<0
 ·exact .inr (.inr (.inl h1))
 by_cases h2:2048≤i
 ·exact .inr (.inr (.inr h2))
 by_cases h3:64<n.length
 ·exact .inr (.inl h3)
 refine .inl ?_;unfold dp;simp;omega
theorem iY.call {f:StF}(I:iY f) {o:jj}(ho:o.ok) (h0:(lD f o).2=0):∃ f',iY f'/\(lD f o).1.ok/\Bb f (lD f o).1 [] f':=by
 unfold lD at h0 ⊢;split at h0
 ·rename_i h1;rw[if_pos h1];obtain⟨u,e,hu,_,hs,ha,_⟩:=I.offer ho.hash h0;rw[e];exact⟨_,hs,iR hu,ha⟩
 rename_i h1;rw[if_neg h1];split at h0
 ·rename_i h2;rw[if_pos h2];obtain⟨e,hs,ha⟩:=I.y9 (IB ho) (Gr _ _) (by show (2:Int)≠1;decide) h0;rw[e];exact⟨_,hs,iR (IB ho),ha⟩
 rename_i h2;rw[if_neg h2];split at h0
 ·rename_i h3;rw[if_pos h3];obtain⟨e,hs,ha⟩:=I.y9 (Iy ho) (Gq _ _) (by show (3:Int)≠1;decide) h0;rw[e];exact⟨_,hs,iR (Iy ho),ha⟩
 rename_i h3;rw[if_neg h3];split at h0
 ·rename_i h4;rw[if_pos h4];obtain⟨e,hr,hs,ha,_⟩:=I.sign h0;rw[e];exact⟨_,hs,hr,ha⟩
 ·cases h0
theorem zS {f:StF}{u:aL}(h0:(j4 f u).2≠0):(j4 f u).1=RcM.zero:=by
 unfold j4 at h0 ⊢;split
 ·rfl
 split
 ·rfl
 split
 ·rfl
 ·rename_i h1 h2 h3;rw[if_neg h1,if_neg h2,if_neg h3]at h0;exact absurd rfl h0
theorem KT {f:StF}{o:jj}(h0:(lD f o).2≠0):(lD f o).1=RcM.zero:=by
 unfold lD at h0 ⊢;split at h0
 ·rename_i h1;rw[if_pos h1];exact Jd h0
 rename_i h1;rw[if_neg h1];split at h0
 ·rename_i h1;rw[if_pos h1];exact zS h0
 rename_i h1;rw[if_neg h1];split at h0
 ·rename_i h1;rw[if_pos h1];exact zS h0
 rename_i h1;rw[if_neg h1];split at h0
 ·rename_i h1;rw[if_pos h1];exact Ko h0
 rename_i h1;rw[if_neg h1];rfl
theorem EA {f:StF}(I:iY f) {o:jj}(ho:o.ok):(lD f o).1.ok:=by
 by_cases h:(lD f o).2=0
 ·obtain⟨_,_,h,_⟩:=I.call ho h;exact h
 ·rw[KT h];exact zok
theorem acr.use {f:StF}{c:CfM}{o:jj}{vo vp vh:ah}(hS:ka G f vo vp vh) (I:iY f) (hc:c.ok) (ho:o.ok) (hQ:∀ G',Ch [] G [] G'->Q (w8 (lD f o)) G'):al P acr.n [c.av,f.s.av vo vp vh,o.av] G Q:=by
 have hs:=hS.ok;have hl:=hS.lv;have hok:=EA I ho;refine acr.sound ?_;unfold acr.S;rw[uU];intro i1 f1;have s1:=(Sp.nil G).row f1 c.av;intro i3 f3;have s3:=s1.row f3 (f.s.av vo vp vh);intro i5 f5;have s5:=s3.row f5 o.av;intro i7 f7;have s7:=s5.row f7 (RcM.zero.av .nilSlice);revert s7;generalize ak.upd _ i7 _=G8;intro s7;have hS7:=hS.mv s7.ch;have hg:=au.own (i:=1) s7 rfl;have hf:=au.own (i:=2) s7 rfl;have fin:∀ {x:RcM×Int}{G2:ak},lD f o=x->Ch [] G8 [] G2->wv (aP (w8 x) 0) fun v16=>wv (aP (w8 x) 1) fun v17=>wg (aF T G2 ax (.ptr i7 [] 0) v16) fun G18=>wv (ag T G18 ax (.ptr i7 [] 0)) fun v19=>Q (.tuple [v19,v17]) G18:=by
  intro x G2 hx c2;rw[hx]at hok hQ;have s2:=s7.tmp c2;refine ae (tr0 _) ?_;refine ae (tr1 _) ?_;refine Rc.st (i:=0) s2 rfl zok bw.nil hok bw.nil fun G3 s3=>?_;refine ae (Rc.ld (au.own (i:=0) s3 rfl) hok bw.nil) ?_;exact hQ G3 s3.ch
 unfold lD at fin;refine ae (Oq.sj hg ho) ?_;rw[bB,aa,aI];refine⟨fun h1=>?_,fun ha=>?_⟩
 ·refine ae (St.ld hf hs hl) ?_;refine ae (Oq.xD hg ho) ?_;refine ae (Oq.sk hg ho) ?_;refine fh.use hS7 I ho.hash fun G15 c15=>?_;exact fin (if_pos h1) c15
 rw[if_neg ha]at fin;rw[bB,aa,aI];refine⟨fun h1=>?_,fun hb=>?_⟩
 ·refine ae (St.ld hf hs hl) ?_;refine ae (Oq.B0 hg ho) ?_;refine ae (Oq.sk hg ho) ?_;refine eJ.use hS7 I ho.id ho.hash fun G15 c15=>?_;exact fin (if_pos h1) c15
 rw[if_neg hb]at fin;rw[bB,aa,aI];refine⟨fun h1=>?_,fun hcc=>?_⟩
 ·refine ae (St.ld hf hs hl) ?_;refine ae (Oq.B0 hg ho) ?_;refine ae (Oq.zc hg ho) ?_;refine eK.use hS7 I ho.id ho.note fun G15 c15=>?_;exact fin (if_pos h1) c15
 rw[if_neg hcc]at fin;rw[bB,aa,aI];refine⟨fun h1=>?_,fun hd=>?_⟩
 ·refine ae (Cf.ld (au.own (i:=3) s7 rfl) hc) ?_;refine ae (St.ld hf hs hl) ?_;refine fZ.use hS7 fun G15 c15=>?_;exact fin (if_pos h1) c15
 rw[if_neg hd]at fin;refine ae Ic ?_;refine Rc.st (i:=0) s7 rfl zok bw.nil zok bw.nil fun G50 s50=>?_;refine ae (Rc.ld (au.own (i:=0) s50 rfl) zok bw.nil) ?_;have e:lD f o=noR 1:=by unfold lD;rw[if_neg ha,if_neg hb,if_neg hcc,if_neg hd]
 rw[e]at hQ;exact hQ G50 s50.ch
end
end Go.Esc.M
namespace Go.Esc.M
open Go Go.Esc
def jj.zero:jj:=⟨0,false,0,0,h0,[],0⟩
theorem jj.bq:jj.zero.ok:=⟨cL,cL,cL,rfl,by simp[jj.zero],cL⟩
theorem abw:bj T ja []=some jj.zero.av:=rfl
theorem abl {m:cr}(h:m.ok):yE m jj.zero=m:=by
 have h1:=h.index;unfold yE;have e:jj.zero.index=0:=rfl;have e2:¬ jj.zero.note=[98,101,110,100]:=by decide
 rw[e,if_neg e2,Int.add_zero,i64_in h1.1 h1.2]
def tF (f:StF) (o:jj):StF:=if o.kind=4 then yG f (lD f o).1 else q6 f (lD f o).1.upd
theorem iY.tF {f:StF}(I:iY f) {o:jj}(ho:o.ok) (h0:(lD f o).2=0):iY (tF f o)/\Bb f (lD f o).1 [] (tF f o):=by
 unfold M.tF;unfold lD at h0 ⊢;split at h0
 ·rename_i h1;rw[if_pos h1,if_neg (by omega)];obtain⟨u,e,hu,_,hs,ha,_⟩:=I.offer ho.hash h0;rw[e];exact⟨hs,ha⟩
 rename_i h1;rw[if_neg h1];split at h0
 ·rename_i h2;rw[if_pos h2,if_neg (by omega)];obtain⟨e,hs,ha⟩:=I.y9 (IB ho) (Gr _ _) (by show (2:Int)≠1;decide) h0;rw[e];exact⟨hs,ha⟩
 rename_i h2;rw[if_neg h2];split at h0
 ·rename_i h3;rw[if_pos h3,if_neg (by omega)];obtain⟨e,hs,ha⟩:=I.y9 (Iy ho) (Gq _ _) (by show (3:Int)≠1;decide) h0;rw[e];exact⟨hs,ha⟩
 rename_i h3;rw[if_neg h3];split at h0
 ·rename_i h4;rw[if_pos h4,if_pos h4];obtain⟨e,hr,hs,ha,_⟩:=I.sign h0;rw[e];exact⟨hs,ha⟩
 ·cases h0
def sD (t:me) (s:Bool) (m:cr):me×Bool:=
 if m.kind=1\/m.kind=2\/m.kind=3 then (if vu (t.f s) (Bw m)=0 then (kq t s ⟨(t.f s).s,(t.f s).o,(t.f s).p++[Bw m],(t.f s).h⟩,true) else (t,false))
 else if (mU (t.c s) (t.f s) m).e=0 then (uD t s (AO m) (yy (t.f s) m.index m.hash),true)
 else if (jR (t.f s) m).2=0 then (uD t s (jR (t.f s) m).1 (uQ (t.f s) (jR (t.f s) m).1),true) else (t,false)
theorem kK.more {t:me}{n m:Nat}(k:kK t n) (h:n≤m):kK t m:={ c:=k.c,f:=k.f,q:=k.q,n:=fun s=>Nat.le_trans (k.n s) h }
theorem H6 {t:me}{n:Nat}(k:kK t n) {s:Bool}{m:cr}(hm:m.ok):kK (sD t s m).1 (n+1):=by
 have I:=k.f s;unfold sD;split
 ·split
  ·rename_i h;exact (sT k (I.heard (vF hm) h).1).more (by omega)
  ·exact k.more (by omega)
 split
 ·rename_i h;obtain⟨_,h2,h3,_⟩:=I.came (c:=t.c s) hm h;exact CR k h2 h3
 split
 ·rename_i h;obtain⟨e,h2,h3,_⟩:=I.y8 hm h;rw[e];exact CR k h2 h3
 ·exact k.more (by omega)
section
variable {F0:List AId}{G0 G:ak}{ps:List LP}{Q:ah->ak->Prop}{tb:AId}{t:me}{l:Bool->Ls}{w:Bool->ah}
theorem Sp.one {p:LP}{F:List AId}(h:p.p G F) (c:Ch F0 G0 F G):Sp F0 G0 [p] G:=⟨[F],⟨h,by simp,trivial⟩,by simpa using c⟩
theorem Hx (s:Bool):bt T aE (aS tb s) 5=some (.ptr tb [1,bN s,5] (328+(bN s*115+5))):=by cases s<;>rfl
theorem IG {n:Nat}{s:Bool}{x:ah}{q:List aL}{K:ak->Prop}(h:Sp F0 G0 [jP tb t,bm 36 x (q.map aL.av)] G) (k:kK t n)
  (hK:∀ G',Sp F0 G0 [jP tb (kq t s ⟨(t.f s).s,(t.f s).o,q,(t.f s).h⟩)] G'->K G'):wg (aF T G aj (.ptr tb [1,bN s,5] (328+(bN s*115+5))) x) K:=by
 obtain⟨l,w,h2⟩:=Sp.BS h;have a:=Sp.DQ h2;have hx:=(bm.own (i:=9) h2 rfl).leaf;cases s
 ·refine fg (st3 a.g (a.szl k) rfl rfl (a.szS k) rfl rfl (StM.szl (k.f false).ok (a.lv false)) rfl rfl rfl bT (kF hx rfl) (by rw[(a.lv false).2.1.1,hx.1]) hx.2.2) (hK _ ?_);have h3:=Sp.setRow (j:=0) h2 rfl (oU (kq t false ⟨(t.f false).s,(t.f false).o,q,(t.f false).h⟩) (mg l false ⟨(l false).o,x,(l false).h⟩) w);have h4:=Sp.pick h3 [0,1,9,3,4,5,6,7,8] (by decide) (by intro y hy;simp at hy ⊢;omega);exact Sp.qW (ps:=[]) (t:=kq t false ⟨(t.f false).s,(t.f false).o,q,(t.f false).h⟩) (l:=mg l false ⟨(l false).o,x,(l false).h⟩) (w:=w) h4
 ·refine fg (st3 a.g (a.szl k) rfl rfl (a.szS k) rfl rfl (StM.szl (k.f true).ok (a.lv true)) rfl rfl rfl bT (kF hx rfl) (by rw[(a.lv true).2.1.1,hx.1]) hx.2.2) (hK _ ?_);have h3:=Sp.setRow (j:=0) h2 rfl (oU (kq t true ⟨(t.f true).s,(t.f true).o,q,(t.f true).h⟩) (mg l true ⟨(l true).o,x,(l true).h⟩) w);have h4:=Sp.pick h3 [0,1,2,3,4,9,6,7,8] (by decide) (by intro y hy;simp at hy ⊢;omega);exact Sp.qW (ps:=[]) (t:=kq t true ⟨(t.f true).s,(t.f true).o,q,(t.f true).h⟩) (l:=mg l true ⟨(l true).o,x,(l true).h⟩) (w:=w) h4
theorem acm.use {F:List AId}{n:Nat}{s:Bool}{m:cr}(h:(jP tb t).p G F) (k:kK t n) (hn:n≤99999999) (hm:m.ok)
  (hQ:∀ F' G',(jP tb (sD t s m).1).p G' F'->Ch F G F' G'->Q (.bool (sD t s m).2) G'):al P acm.n [.ptr tb [] 0,.int .i64 (bI s),m.av] G Q:=by
 refine acm.sound ?_;unfold acm.S;obtain⟨l,w,a⟩:=jP.at_ h;have I:=k.f s;have hlo:=I.lo;have hlp:=I.lp;have hso:=I.ok;have hl:=a.lv s;intro i1 f1;have s1:=(Sp.nil G).row f1 m.av;refine ae jm ?_;refine ae qO ?_;refine ae (qM s) ?_;refine ae ((a.mv s1.ch).ldS k s) ?_;refine St.nw s1 hso hl fun i7 G9 s9=>?_;have s9:Sp [] G [au i7 ((t.f s).s.av (l s).o (l s).p (l s).h),au i1 m.av] G9:=s9;have a9:=a.mv s9.ch;have hS9:=a9.IV k s;have S9:Sp F G [jP tb t,au i7 ((t.f s).s.av (l s).o (l s).p (l s).h),au i1 m.av] G9:=Sp.with h s9;have same:∀ {G2:ak}{ps:List LP},Sp F G (jP tb t::ps) G2->∃ F',(jP tb t).p G2 F'/\Ch F G F' G2:=by
  intro G2 ps sp;have s4:Sp F G [jP tb t] G2:=sp.take 1;exact s4.out
 intro J74;have h1:(m.kind=1\/m.kind=2\/m.kind=3)->J74 (.bool true) G9:=by
  intro hk;unfold sD at hQ;rw[if_pos hk]at hQ;have hu:=vF hm;obtain⟨u,hue⟩:∃ u,Bw m=u:=⟨_,rfl⟩;rw[hue]at hu hQ;simp -zeta only [J74,aN];refine ae (gx (i:=1) s9 rfl hm).2.2.2.2.2.2.2.2 ?_;refine dd.use hm fun G20 c20=>?_;rw[hue];have s20:=s9.tmp c20;refine vX s20 hu fun i21 G23 s23=>?_;have s23:Sp [] G [au i21 u.av,au i7 ((t.f s).s.av (l s).o (l s).p (l s).h),au i1 m.av] G23:=s23;refine ae (St.ld (au.own (i:=1) s23 rfl) hso hl) ?_;refine ae (bF (i:=0) s23 rfl hu).2.2.2.2.2 ?_;refine fj.use ((a.mv s23.ch).IV k s) I hu fun G27 c27=>?_;have s27:=s23.tmp c27;have s27:Sp [] G [au i21 u.av,au i7 ((t.f s).s.av (l s).o (l s).p (l s).h),au i1 m.av] G27:=s27;rw[cD,aa,dC];refine⟨fun h0=>?_,fun h0=>?_⟩
  ·rw[if_neg h0]at hQ;obtain⟨F',q1,q2⟩:=same (Sp.with h s27);exact hQ F' G27 q1 q2
  ·rw[if_pos h0]at hQ;have hS27:=(a.mv s27.ch).IV k s;refine ae (St.eH (au.own (i:=1) s27 rfl) hso hl) ?_;refine ae (bF (i:=0) s27 rfl hu).2.2.2.2.2 ?_;refine ae jm ?_;refine ae qO ?_;refine Jz s27 hS27.p.gZ I.okp (by omega) fun v33 G34 s34=>?_;refine⟨⟨(bF (i:=1) s34 rfl hu).2.2.2.2.2,trivial⟩,?_⟩;refine Jy (i:=0) s34 rfl hu (by omega) fun v37 G38 s38=>?_;refine ae (qM s) ?_;refine ae (Hx s) ?_;have S38:Sp F G [jP tb t,bm 36 v37 (((t.f s).p++[u]).map aL.av)] G38:=(Sp.with h s38).take 2;refine IG S38 k fun G41 S41=>?_;obtain⟨F',q1,q2⟩:=S41.out;exact hQ F' G41 q1 q2
 have put:∀ {G2:ak}{ps:List LP}{r:RcM}{lu:List aL}{v:ah}{f':StF}{K:ah->ak->Prop},Sp F G (jP tb t::ps) G2->r.ok->bw v->ff 36 G2 v (lu.map aL.av)->(∀ u∈lu,u.ok)->lu.length≤4096->Bb (t.f s) r lu f'->iY f' ->
   (∀ F' G',(jP tb (uD t s r f')).p G' F'->Ch F G F' G'->K (.tuple []) G')->al P b9.n [.ptr tb [] 0,.int .i64 (bI s),r.av v] G2 K:=by
  intro G2 ps r lu v f' K sp hr hv hlu ok1 hll ap I' hK;have sp1:Sp F G [jP tb t] G2:=sp.take 1;refine sp1.call (i:=0) rfl (jP tb (uD t s r f')) fun F1 h1 kk=>?_;refine b9.use h1 k hn hr hv hlu ok1 hll ap I' fun F2 G3 h2 c2=>?_;obtain⟨F',q1,q2⟩:=(kk F2 G3 h2 c2).out;exact hK F' G3 q1 q2
 have h2:¬ (m.kind=1\/m.kind=2\/m.kind=3)->J74 (.bool false) G9:=by
  intro hk;unfold sD at hQ;rw[if_neg hk]at hQ;simp -zeta only [J74,aK];refine ae jm ?_;refine ae qP ?_;refine ae (qN s) ?_;refine ae (a9.ldC k s) ?_;refine ae (St.ld (au.own (i:=0) s9 rfl) hso hl) ?_;refine ae (gx (i:=1) s9 rfl hm).2.2.2.2.2.2.2.2 ?_;refine gb.use hS9 I (k.c s) hm fun w48 G49 t49=>?_;have s49:Sp [] G [bm 36 w48 ((mU (t.c s) (t.f s) m).l.map aL.av),au i7 ((t.f s).s.av (l s).o (l s).p (l s).h),au i1 m.av] G49:=u9 s9 t49;have lw:=(bm.own (i:=0) s49 rfl).leaf;have hco:(mU (t.c s) (t.f s) m).r.ok:=by
   by_cases h0:(mU (t.c s) (t.f s) m).e=0
   ·obtain⟨e,h2,_⟩:=I.came (c:=t.c s) hm h0;rw[e];exact h2
   ·rw[(Hf h0).1];exact zok
  have hcc:=fun h0=>I.came (c:=t.c s) hm h0;generalize mU (t.c s) (t.f s) m=X at hQ s49 lw hco hcc;refine ae (tv0 _ _) ?_;refine ae (tv1 _ _) ?_;refine Rc.nw s49 hco lw fun i52 G54 s54=>?_;have s54:Sp [] G [au i52 (X.r.av w48),bm 36 w48 (X.l.map aL.av),au i7 ((t.f s).s.av (l s).o (l s).p (l s).h),au i1 m.av] G54:=s54;rw[bB,aa,aI];refine⟨fun h0=>?_,fun h0=>?_⟩
  ·rw[if_pos h0]at hQ;obtain⟨e,c2,c3,c4,_⟩:=hcc h0;refine ae (Rc.ld (au.own (i:=0) s54 rfl) hco lw) ?_;subst e;refine put (Sp.with h s54) c2 lw (bm.own (i:=1) s54 rfl).is (fun u hu=>I.okp u (List.mem_of_mem_drop hu)) (by rw[List.length_drop];omega) c4 c3 fun F' G' q1 q2=>?_;exact hQ F' G' q1 q2
  ·rw[if_neg h0]at hQ;refine ae (St.ld (au.own (i:=2) s54 rfl) hso hl) ?_;refine ae (gx (i:=3) s54 rfl hm).2.2.2.2.2.2.2.2 ?_;refine dW.use ((a.mv s54.ch).IV k s) I hm fun G62 c62=>?_;have s62:=s54.tmp c62;have s62:Sp [] G [au i52 (X.r.av w48),bm 36 w48 (X.l.map aL.av),au i7 ((t.f s).s.av (l s).o (l s).p (l s).h),au i1 m.av] G62:=s62;have hro:(jR (t.f s) m).1.ok:=by
    by_cases h0:(jR (t.f s) m).2=0
    ·obtain⟨e,h2,_⟩:=I.y8 hm h0;rw[e];exact h2
    ·rw[Fq h0];exact zok
   have hrr:=fun h0=>I.y8 hm h0;have hap:(jR (t.f s) m).2=0->iY (uQ (t.f s) (jR (t.f s) m).1)/\Bb (t.f s) (jR (t.f s) m).1 [] (uQ (t.f s) (jR (t.f s) m).1):=by
    intro h0;obtain⟨e,h2,h3,h4,_⟩:=hrr h0;rw[e];exact⟨h3,h4⟩
   clear hrr;generalize jR (t.f s) m=Y at hQ hro hap;refine ae (tr0 _) ?_;refine ae (tr1 _) ?_;refine Rc.st (i:=0) s62 rfl hco lw hro bw.nil fun G65 s65=>?_;rw[bB,aa,aI];refine⟨fun h0=>?_,fun h0=>?_⟩
   ·rw[if_pos h0]at hQ;refine ae (Rc.ld (au.own (i:=0) s65 rfl) hro bw.nil) ?_;refine put (lu:=[]) (Sp.with h s65) hro bw.nil (.inr ⟨rfl,rfl⟩) (fun u hu=>by cases hu) (by simp) (hap h0).2 (hap h0).1 fun F' G' q1 q2=>?_;rw[aa,dT_ h0];exact hQ F' G' q1 q2
   ·rw[if_neg h0]at hQ;rw[aa,dF_ h0];obtain⟨F',q1,q2⟩:=same (Sp.with h s65);exact hQ F' G65 q1 q2
 have hg:=gx (i:=1) s9 rfl hm;refine ae hg.1 ?_;rw[bB,aa,aI];refine⟨fun e=>h1 (.inl e),fun e1=>?_⟩;refine ae hg.1 ?_;rw[bB,aa,aI];refine⟨fun e=>h1 (.inr (.inl e)),fun e2=>?_⟩;refine ae hg.1 ?_;rw[bB,aa];by_cases e3:m.kind=3
 ·rw[dT_ e3];exact h1 (.inr (.inr e3))
 ·rw[dF_ e3];exact h2 (by rintro (h | h | h);exact e1 h;exact e2 h;exact e3 h)
def stepT (t:me) (o:jj):me:=
 if o.kind=5 then match t.q o.side with
  | []=>t
  | m::ms=>(sD (oW t o.side ms) o.side m).1
 else if (lD (t.f o.side) o).2=0 then uD t o.side (lD (t.f o.side) o).1 (tF (t.f o.side) o) else t
theorem ade {t:me}{n:Nat}(k:kK t n) {o:jj}(ho:o.ok):kK (stepT t o) (n+1):=by
 unfold stepT;split
 ·have hq:=k.q o.side;have hn:=k.n o.side;split
  ·exact k.more (by omega)
  ·rename_i m ms e;rw[e]at hq hn;refine H6 (vD k (Nat.le_refl n) (fun x hx=>hq x (List.mem_cons_of_mem _ hx)) ?_) (hq m (by simp));simp only[List.length_cons]at hn;omega
 split
 ·rename_i h;exact CR k (EA (k.f o.side) ho) ((k.f o.side).tF ho h).1
 ·exact k.more (by omega)
theorem acp.use {F:List AId}{n:Nat}{o:jj}(h:(jP tb t).p G F) (k:kK t n) (hn:n≤99999999) (ho:o.ok)
  (hQ:∀ F' G',(jP tb (stepT t o)).p G' F'->Ch F G F' G'->Q (.tuple []) G'):al P acp.n [.ptr tb [] 0,o.av] G Q:=by
 refine acp.sound ?_;unfold acp.S;obtain⟨l,w,a⟩:=jP.at_ h;intro i1 f1;have s1:=(Sp.nil G).row f1 o.av;revert s1;generalize ak.upd _ i1 _=G2;intro s1;have S1:Sp F G [jP tb t,au i1 o.av] G2:=Sp.with h s1;have hg:=au.own (i:=0) s1 rfl;have same:∀ {t':me}{G2:ak}{ps:List LP},Sp F G (jP tb t'::ps) G2->∃ F',(jP tb t').p G2 F'/\Ch F G F' G2:=by
  intro t' G2 ps sp;have s4:Sp F G [jP tb t'] G2:=sp.take 1;exact s4.out
 refine ae (Oq.lJ hg ho) ?_;intro J41;have go:J41 (.int .i64 (bI o.side)) G2:=by
  unfold stepT at hQ;simp -zeta only [J41];refine ae (Oq.sj hg ho) ?_;rw[bB,aa,aI];refine⟨fun h5=>?_,fun h5=>?_⟩
  ·rw[if_pos h5]at hQ;refine ae abw ?_;obtain⟨F1,h1,c1⟩:=same S1;refine df.use h1 k hn jj.bq (fun e G10 c10=>?_) fun m ms e F' G10 h10 c10=>?_
   ·rw[e]at hQ;have hQ:∀ F' G',(jP tb t).p G' F'->Ch F G F' G'->Q (.tuple []) G':=hQ;have S10:Sp F G [jP tb t,au i1 o.av] G10:=S1.tmp c10;refine ae (tv0 _ _) ?_;refine ae (tv1 _ _) ?_;refine Kz S10 cr.bq fun i13 G15 s15=>?_;rw[aK];obtain⟨F',q1,q2⟩:=same (s15.erase 0);exact hQ F' G15 q1 q2
   ·rw[e]at hQ;have hQ:∀ F' G',(jP tb (sD (oW t o.side ms) o.side m).1).p G' F'->Ch F G F' G'->Q (.tuple []) G':=hQ;have hm:m.ok:=k.q o.side m (by rw[e];simp);have k':kK (oW t o.side ms) n:=by
     have hq:=k.q o.side;have hl:=k.n o.side;rw[e]at hq hl;simp only[List.length_cons]at hl;exact vD k (Nat.le_refl n) (fun x hx=>hq x (List.mem_cons_of_mem _ hx)) (by omega)
    rw[abl hm];have S10:Sp F G [jP tb (oW t o.side ms)] G10:=Sp.one h10 (c1.trans c10);refine ae (tv0 _ _) ?_;refine ae (tv1 _ _) ?_;refine Kz S10 hm fun i13 G15 s15=>?_;rw[aN];refine ae (gx (i:=0) s15 rfl hm).2.2.2.2.2.2.2.2 ?_;obtain⟨F5,h5',c5⟩:=same (s15.erase 0);refine acm.use h5' k' hn hm fun F' G18 q1 q2=>?_;exact hQ F' G18 q1 (c5.trans q2)
  ·rw[if_neg h5]at hQ;have a2:=a.mv s1.ch;have I:=k.f o.side;have hok:=EA I ho;have hcf:=fun h0=>I.tF ho h0;refine ae jm ?_;refine ae qP ?_;refine ae (qN _) ?_;refine ae (a2.ldC k _) ?_;refine ae jm ?_;refine ae qO ?_;refine ae (qM _) ?_;refine ae (a2.ldS k _) ?_;refine ae (Oq.ld hg ho) ?_;refine acr.use (a2.IV k _) I (k.c _) ho fun G30 c30=>?_;have S30:Sp F G [jP tb t,au i1 o.av] G30:=S1.tmp c30;refine ae (tr0 _) ?_;refine ae (tr1 _) ?_;refine Rc.nw S30 hok bw.nil fun i33 G35 s35=>?_;obtain⟨F1,h1,c1⟩:=same (s35.erase 0);rw[bB,aa,aI];refine⟨fun h0=>?_,fun h0=>?_⟩
   ·rw[if_pos h0]at hQ;refine ae (Rc.ld (au.own (i:=0) s35 rfl) hok bw.nil) ?_;refine b9.use (lu:=[]) h1 k hn hok bw.nil (.inr ⟨rfl,rfl⟩) (fun u hu=>by cases hu) (by simp) (hcf h0).2 (hcf h0).1 fun F' G' q1 q2=>?_;exact hQ F' G' q1 (c1.trans q2)
   ·rw[if_neg h0]at hQ;exact hQ F1 G35 h1 c1
 cases hs:o.side with
 | false=>
  rw[hs]at go;rw[aK];exact go
 | true=>
  rw[hs]at go;rw[aN];exact go
end
end Go.Esc.M
namespace Go.Esc.M
open Go Go.Esc
def mea (f:StF):Nat:=f.o.length+f.s.sgnA.toNat+f.s.sgnB.toNat+f.s.atA.toNat+f.s.atB.toNat
theorem LG {f:StF}(I:iY f):mea f≤10240:=by
 have:=I.lo;have:=I.lp;have:=I.a0;have:=I.a1;have:=I.a2;have:=I.a3;have:=I.b0;have:=I.b1;have:=I.b2;have:=I.b3;unfold mea;omega
theorem Jk {f:StF}(I:iY f) {o:jj}(h0:(lD f o).2=0):1+mea f≤mea (tF f o):=by
 have ho:∀ u,1+mea f≤mea (q6 f u):=by
  intro u;unfold mea q6;simp only[List.length_append,List.length_singleton];omega
 unfold tF;by_cases h4:o.kind=4
 ·rw[if_pos h4];have e:lD f o=p6 f:=by unfold lD;rw[if_neg (by omega),if_neg (by omega),if_neg (by omega),if_pos h4]
  rw[e]at h0 ⊢;unfold p6 at h0 ⊢;split at h0
  ·cases h0
  rename_i h1;rw[if_neg h1];split at h0
  ·cases h0
  rename_i h2;rw[if_neg h2];split at h0
  ·cases h0
  rename_i h3;rw[if_neg h3];have h5:¬ ((f.o.length:Int)=f.s.sgnA/\f.s.atB=f.s.sgnB):=fun h=>h2 (.inr h);have:=I.a0;have:=I.a1;have:=I.a2;have:=I.a3;have:=I.b0;have:=I.b1;have:=I.b2;show 1+mea f≤f.o.length+((f.o.length:Nat):Int).toNat+f.s.atB.toNat+f.s.atA.toNat+f.s.atB.toNat;unfold mea;omega
 ·rw[if_neg h4];exact ho _
theorem Jj {c:CfM}{f:StF}(I:iY f) {m:cr}(h0:(mU c f m).e=0):1+mea f≤mea (yy f m.index m.hash):=by
 unfold mU at h0;split at h0
 ·cases h0
 split at h0
 ·cases h0
 split at h0
 ·cases h0
 split at h0
 ·cases h0
 rename_i h4;have:=I.a0;have:=I.a1;have:=I.b0;have:=I.b1;have:=I.b2;have:=I.b3;show 1+mea f≤f.o.length+f.s.sgnA.toNat+f.s.sgnB.toNat+f.s.heldA.toNat+((f.p.length:Nat):Int).toNat;unfold mea;omega
end Go.Esc.M
namespace Go.Esc.M
open Go Go.Esc
theorem J9 {G:ak}{R d:Nat}{v:ah}{m:Nat}(h:wt T G R (d+3) ja v m):∃ o:jj,v=o.av/\o.ok:=by
 obtain⟨cs,ms,rfl,hf,rfl⟩:=wP kI rfl h;obtain⟨c1,cs,m1,ms,rfl,rfl,h1,hf⟩:=nA hf;obtain⟨c2,cs,m2,ms,rfl,rfl,h2,hf⟩:=nA hf;obtain⟨c3,cs,m3,ms,rfl,rfl,h3,hf⟩:=nA hf;obtain⟨c4,cs,m4,ms,rfl,rfl,h4,hf⟩:=nA hf;obtain⟨c5,cs,m5,ms,rfl,rfl,h5,hf⟩:=nA hf;obtain⟨c6,cs,m6,ms,rfl,rfl,h6,hf⟩:=nA hf;obtain⟨c7,cs,m7,ms,rfl,rfl,h7,hf⟩:=nA hf;obtain⟨rfl,rfl⟩:=Gk hf;obtain⟨a1,rfl,w1,_⟩:=wQ iD rfl h1;obtain⟨a2,rfl,_⟩:=J8 lL rfl h2;obtain⟨a3,rfl,w3,_⟩:=wQ cu rfl h3;obtain⟨a4,rfl,w4,_⟩:=wQ cu rfl h4;obtain⟨a5,rfl,w5,_⟩:=Cw bZ rfl cW rfl h5;obtain⟨a6,rfl,hR,hn,_⟩:=Lj fS rfl h6;obtain⟨a7,rfl,w7,_⟩:=wQ cu rfl h7;exact⟨⟨a1,a2,a3,a4,a5,a6,a7⟩,rfl,⟨vt.1 w1,vt.1 w3,vt.1 w4,w5,hn,vt.1 w7⟩⟩
theorem Ka {G:ak}{R d:Nat}{v:ah}{m:Nat}(h:wt T G R (d+4) jd v m):∃ l:List jj,sS 38 G v (l.map jj.av)/\(∀ u∈l,u.ok)/\l.length≤R:=by
 obtain⟨xs,ms,hro,hall,hms,hR,_⟩:=Mc jj.av (fun u m=>u.ok/\1≤m) nV rfl kI (fun c m h=>by
  obtain⟨u,hu,ho⟩:=J9 h
  obtain⟨_,ms,_,_,e⟩:=wP kI rfl h
  exact⟨u,hu,ho,by omega⟩) h
 have e:kh.bytes=88:=rfl;rw[e]at hR;refine⟨xs,hro,fun u hu=>?_,by omega⟩;obtain⟨m,hm,_⟩:=hall.mem hu;exact hm.1
theorem Kb {G:ak}{R d:Nat}{v:ah}{m:Nat}(h:wt T G R (d+4) db v m):∃ x:DlM,v=x.av/\x.ok:=by
 obtain⟨cs,ms,rfl,hf,rfl⟩:=wP nf rfl h;obtain⟨c1,cs,m1,ms,rfl,rfl,h1,hf⟩:=nA hf;obtain⟨c2,cs,m2,ms,rfl,rfl,h2,hf⟩:=nA hf;obtain⟨c3,cs,m3,ms,rfl,rfl,h3,hf⟩:=nA hf;obtain⟨c4,cs,m4,ms,rfl,rfl,h4,hf⟩:=nA hf;obtain⟨rfl,rfl⟩:=Gk hf;obtain⟨a1,rfl,w1,_⟩:=wQ cu rfl h1;obtain⟨a2,rfl,w2,_⟩:=wQ cu rfl h2;obtain⟨a3,b3,rfl,w3,w3'⟩:=Du h3;obtain⟨a4,b4,rfl,w4,w4'⟩:=Du h4;exact⟨⟨a1,a2,a3,b3,a4,b4⟩,rfl,⟨vt.1 w1,vt.1 w2,w3,w3',w4,w4'⟩⟩
theorem Lt {G:ak}{v:ah}{l:List jj}{j:Nat}{u:jj}(h:ff 38 G v (l.map jj.av)) (hj:l[j]?=some u):∃ a,aO T jd v (.int .i64 (j:Int))=some a/\ag T G ja a=some u.av:=
 h.at_ (k:=.i64) (i:=kR) (ie:=kh) (T:=T) (t:=jd) (e:=ja) nV rfl kI (by rw[List.getElem?_map,hj];rfl) rfl
theorem GA {G:ak}{v:ah}{l:List jj}(h:ff 38 G v (l.map jj.av)):fU T G jd v=some (.int .i64 (l.length:Nat)):=by
 rw[h.len (i:=kR) nV rfl,List.length_map]
theorem ah6 (t:me) (o:jj):(stepT t o).c=t.c:=by
 unfold stepT sD;split
 ·split
  ·rfl
  ·split
   ·split<;>rfl
   ·split
    ·rfl
    ·split<;>rfl
 ·split<;>rfl
end Go.Esc.M
namespace Go.Esc.M
open Go Go.Esc
structure abz (root:List UInt8) (L:List b6) (n:Nat):Prop where
 len:L.length≤49
 slot:∀ j,(atS L j).full=true->∃ i:Nat,i<n/\atS L j=⟨(i:Int),mj (pl (i:Int)) 48 root,true⟩/\level (pl (i:Int))=j/\∀ m:Nat,m<n->level (pl (m:Int))=j->m≤i
 all:∀ m:Nat,m<n->(atS L (level (pl (m:Int)))).full=true
theorem aba (root:List UInt8):abz root [] 0:=by
 refine⟨by decide,fun j h=>?_,fun m h=>by omega⟩;rw[wF (by simp)]at h;cases h
theorem aa5 {i:Nat}(h:i≤281474976710655):okN (i:Int)=true/\pl (i:Int)+i=281474976710655:=by
 have h1:okN (i:Int)=true:=GJ.2 ⟨by omega,by omega⟩;have:=(yg h1).1;exact⟨h1,by omega⟩
theorem abM {root:List UInt8}{L:List b6}{n:Nat}(h:abz root L n) (hn:n<281474976710655):vl L (n:Int) (mj (pl (n:Int)) 48 root)=true:=by
 refine sb.2 fun j hj=>?_;unfold vy;cases hfu:(atS L j).full with
 | false=>rfl
 | true=>
  obtain⟨i,hi,he,hlj,hlast⟩:=h.slot j hfu;obtain⟨hno,hpn⟩:=aa5 (i:=n) (by omega);obtain⟨hio,hpi⟩:=aa5 (i:=i) (by omega);obtain⟨lv,hlv⟩:∃ k,k=level (pl (n:Int)):=⟨_,rfl⟩;have hle:=rq (pl (n:Int));have hjl:(2:Nat) ^ j<2 ^ lv:=Nat.pow_lt_pow_right (by decide) (by omega);have hpos:0<(2:Nat) ^ j:=Nat.pow_pos (by decide);have hnear:pl (n:Int)/2 ^ level (pl (n:Int))=pl (i:Int)/2 ^ level (pl (n:Int)):=by
   refine (abE (BZ _)).2 ⟨by omega,?_⟩;rw[<- hlv];by_cases hb:n<2 ^ j
   ·omega
   ·obtain⟨m,hm⟩:∃ m,m=n-2 ^ j:=⟨_,rfl⟩;obtain⟨hmo,hpm⟩:=aa5 (i:=m) (by omega);obtain⟨q,hq⟩:2 ^ (j+1) ∣ pl (n:Int):=Nat.dvd_trans (Nat.pow_dvd_pow 2 (by omega)) (BZ _);have hml:level (pl (m:Int))=j:=by
     refine Jo (m:=q) (by omega) ?_;rw[Nat.mul_add,Nat.mul_one,<- Nat.mul_assoc,<- Nat.pow_succ];obtain⟨X,hX⟩:∃ X,X=2 ^ (j+1)*q:=⟨_,rfl⟩;rw[<- hX]at hq ⊢;omega
    have:=hlast m (by omega) hml;omega
  have hv:=abI (a:=pl (n:Int)) (b:=pl (i:Int)) (k:=level (pl (n:Int))) (n:=48-level (pl (n:Int))) (x:=root) (BZ _) hnear;rw[show level (pl (n:Int))+(48-level (pl (n:Int)))=48 by omega]at hv;have hd:kN (mj (pl (n:Int)) 48 root) (n:Int) (i:Int)=(mj (pl (i:Int)) 48 root,0):=by
   unfold kN;rw[hno,hio,Bool.and_self,cond_true,if_pos hnear,hv]
  rw[he];show (true && !decide (kN (mj (pl (n:Int)) 48 root) (n:Int) (i:Int)=(mj (pl (i:Int)) 48 root,0)))=false;rw[hd,dT_ rfl];rfl
theorem abT {l:List b6}{n:Int}{secret:List UInt8}{j:Nat}:atS (Aq l n secret) j=if j<49 then (if j=level (pl n) then ⟨n,secret,true⟩ else atS l j) else oF:=by
 by_cases h:j<49
 ·rw[if_pos h];have e:(Aq l n secret)[j]?=some (if j=level (pl n) then ⟨n,secret,true⟩ else atS l j):=by
   unfold Aq;rw[List.getElem?_map,List.getElem?_range h];rfl
  rw[A8 e];by_cases hj:j=level (pl n)
  ·rw[if_pos hj];rfl
  ·rw[if_neg hj];by_cases hf:(atS l j).full=true
   ·rw[if_pos hf]
   ·rw[if_neg hf];unfold atS at hf ⊢;split
    ·rename_i h2;rw[if_pos h2]at hf;exact absurd h2 hf
    ·rfl
 ·rw[if_neg h,wF (by rw[HS];omega)]
theorem aa9 {root:List UInt8}{L:List b6}{n:Nat}(h:abz root L n) (hn:n<281474976710655):tw L (n:Int) (jS root (n:Int)).1=(Aq L (n:Int) (mj (pl (n:Int)) 48 root),0)/\abz root (tw L (n:Int) (jS root (n:Int)).1).1 (n+1):=by
 obtain⟨hno,hpn⟩:=aa5 (i:=n) (by omega);have hs:(jS root (n:Int)).1=mj (pl (n:Int)) 48 root:=by
  unfold jS;rw[hno,cond_true]
 have he:tw L (n:Int) (jS root (n:Int)).1=(Aq L (n:Int) (mj (pl (n:Int)) 48 root),0):=by
  have:=h.len;rw[hs];unfold tw;rw[if_neg (by omega),if_pos hno,if_pos (abM h hn)]
 refine⟨he,?_⟩;rw[he];have hat:=fun j=>abT (l:=L) (n:=(n:Int)) (secret:=mj (pl (n:Int)) 48 root) (j:=j);refine⟨by show (Aq L _ _).length≤49;rw[HS];omega,fun j hj=>?_,fun m hm=>?_⟩
 ·rw[show (Aq L (n:Int) (mj (pl (n:Int)) 48 root),(0:Int)).1=Aq L (n:Int) (mj (pl (n:Int)) 48 root) from rfl,hat]at hj ⊢;by_cases h49:j<49
  ·rw[if_pos h49]at hj ⊢;by_cases hjl:j=level (pl (n:Int))
   ·rw[if_pos hjl];exact⟨n,by omega,rfl,hjl.symm,fun m hm _=>by omega⟩
   ·rw[if_neg hjl]at hj ⊢;obtain⟨i,h1,h2,h3,h4⟩:=h.slot j hj;refine⟨i,by omega,h2,h3,fun m hm hl=>?_⟩;by_cases hmn:m=n
    ·subst hmn;exact absurd hl.symm hjl
    ·exact h4 m (by omega) hl
  ·rw[if_neg h49]at hj;cases hj
 ·rw[show (Aq L (n:Int) (mj (pl (n:Int)) 48 root),(0:Int)).1=Aq L (n:Int) (mj (pl (n:Int)) 48 root) from rfl,hat];have:=rq (pl (m:Int));rw[if_pos (by omega)];by_cases hmn:level (pl (m:Int))=level (pl (n:Int))
  ·rw[if_pos hmn]
  ·rw[if_neg hmn];have:m≠n:=fun e=>hmn (by rw[e]);exact h.all m (by omega)
theorem abn (b:Bool) (x y:List ba):cnt b (x++y)=cnt b x+cnt b y:=by
 unfold cnt;rw[List.filter_append,List.length_append]
theorem abo {b:Bool}{l:List ba}(h:∀ p∈l,p.ours=b):cnt b l=l.length/\cnt (!b) l=0:=by
 unfold cnt;rw[List.filter_eq_self.2 fun p hp=>by rw[h p hp];cases b<;>rfl,List.filter_eq_nil_iff.2 fun p hp=>by rw[h p hp];cases b<;>decide];exact⟨rfl,rfl⟩
theorem abJ (a b:List aL):cnt true (oN a b)=(a.filter (opens b)).length/\cnt false (oN a b)=(b.filter (opens a)).length:=by
 have h1:=abo (b:=true) (l:=kS (iX true (opens b) a)) rZ;have h2:=abo (b:=false) (l:=kS (iX false (opens a) b)) rZ;have h3:cnt false (kS (iX true (opens b) a))=0:=h1.2;have h4:cnt true (kS (iX false (opens a) b))=0:=h2.2;have e:∀ m f (l:List aL),(kS (iX m f l)).length=(l.filter f).length:=by
  intro m f l;rw[xm];unfold iX;rw[List.length_map]
 unfold oN;rw[abn,abn,h1.1,h3,h2.1,h4,e,e];exact⟨rfl,by omega⟩
def ab4 (q p:ba):Prop:=¬ (p.ours=true/\q.ours=false)/\¬ (p.ours=q.ours/\p.id≤q.id)
theorem abD:∀ {l pre:List ba},(∀ p∈l,0≤p.id/\1≤p.amount/\p.amount≤jb)->(pre++l).Pairwise ab4->Okl pre l
 | [],_,_,_=>trivial
 | p::l,pre,h,hp=>by
  obtain⟨h1,h2,h3⟩:=h p (by simp);refine⟨⟨h1,h2,h3,fun q hq=>?_⟩,abD (fun x hx=>h x (by simp[hx])) (by simpa using hp)⟩;exact (List.pairwise_append.1 hp).2.2 q hq p (by simp)
theorem aaS {m:Bool}{f:aL->Bool}{l:List aL}(hi:rA l) (hk:∀ u,f u=true->u.kind=1):(kS (iX m f l)).Pairwise fun q p=>q.id<p.id:=by
 have h0:l.Pairwise fun u w=>u.kind=1->w.kind=1->u.id≠w.id:=by
  rw[List.pairwise_iff_getElem];intro i j hi' hj' hij h1 h2 he;have:=FF hi (List.getElem?_eq_getElem hi') (List.getElem?_eq_getElem hj') h1 h2 he;omega
 have h1:(iX m f l).Pairwise fun q p=>q.id≠p.id:=by
  unfold iX;rw[List.pairwise_map];have h2:=List.Pairwise.filter f h0;refine List.Pairwise.imp_of_mem ?_ h2;intro a b ha hb h;exact h (hk a (List.mem_filter.1 ha).2) (hk b (List.mem_filter.1 hb).2)
 have hp:=(vP (iX m f l)).1.perm;have h2:(kS (iX m f l)).Pairwise fun q p=>q.id≠p.id:=(hp.pairwise_iff (fun {a b} (h:a.id≠b.id)=>fun e=>h e.symm)).2 h1;have h3:=(vP (iX m f l)).2;rw[List.pairwise_iff_getElem];intro i j hi' hj' hij;have a:=(List.pairwise_iff_getElem.1 h2) i j hi' hj' hij;have b:=(List.pairwise_iff_getElem.1 h3) i j hi' hj' hij;omega
theorem aaC {r:List aL}{u:aL}(h:opens r u=true):u.kind=1:=by
 simp[opens,stays]at h;exact h.1.1
theorem abG {a b:List aL}(va:∀ u∈a,dp u=true) (vb:∀ u∈b,dp u=true) (ia:rA a) (ib:rA b):Okl [] (oN a b):=by
 have mem:∀ {m:Bool}{f:aL->Bool}{l:List aL},(∀ u,f u=true->u.kind=1)->(∀ u∈l,dp u=true)->∀ p∈kS (iX m f l),0≤p.id/\1≤p.amount/\p.amount≤jb:=by
  intro m f l hk hv p hp;have:=(vP (iX m f l)).1.mem.1 hp;obtain⟨u,hu,rfl⟩:=List.mem_map.1 this;obtain⟨h1,h2⟩:=List.mem_filter.1 hu;obtain⟨c1,_,c2⟩:=lW (hv u h1);have:=hk u h2;show 0≤u.id/\1≤u.amount/\u.amount≤jb;unfold jb;omega
 refine abD (fun p hp=>?_) ?_
 ·rcases List.mem_append.1 hp with hp|hp
  ·exact mem (fun u h=>aaC h) va p hp
  ·exact mem (fun u h=>aaC h) vb p hp
 ·rw[List.nil_append];unfold oN;refine List.pairwise_append.2 ⟨?_,?_,?_⟩
  ·refine List.Pairwise.imp_of_mem ?_ (aaS ia fun u h=>aaC h);intro q p hq hp h;exact⟨fun ⟨_,e⟩=>(by rw[rZ q hq]at e;cases e),fun ⟨_,e⟩=>by omega⟩
  ·refine List.Pairwise.imp_of_mem ?_ (aaS ib fun u h=>aaC h);intro q p hq hp h;exact⟨fun ⟨e,_⟩=>(by rw[rZ p hp]at e;cases e),fun ⟨_,e⟩=>by omega⟩
  ·intro q hq p hp;have e1:=rZ q hq;have e2:=rZ p hp;exact⟨fun ⟨e,_⟩=>(by rw[e2]at e;cases e),fun ⟨e,_⟩=>(by rw[e1,e2]at e;cases e)⟩
theorem abm {id:Int}:∀ {l:List aL},jH id l≠0->jH id l=2\/jH id l=3
 | [],h=>absurd rfl h
 | u::l,h=>by
  by_cases hr:m8 id u=true
  ·have e:jH id (u::l)=u.kind:=if_pos hr;rw[e];simp only[m8,Bool.and_eq_true,decide_eq_true_eq]at hr;have:=(lW hr.2.2).2.2;omega
  ·have e:jH id (u::l)=jH id l:=if_neg hr;rw[e]at h ⊢;exact abm h
theorem aa3 {o p:List aL}{a:Int}{n m:Nat}(ha:a.toNat≤m) (vo:∀ u∈o,dp u=true):((o.take n).filter (opens (p.take m))).length≤kX o p a:=by
 unfold kX ml cw;rw[List.length_map];refine Nat.le_trans (List.Sublist.filter _ (List.take_sublist n o)).length_le ?_;rw[<- List.countP_eq_length_filter,<- List.countP_eq_length_filter];refine List.countP_mono_left fun u hu h=>?_;have hk:=aaC h;rw[dT_ hk,vo u hu,Bool.true_and,Bool.true_and,decide_eq_true_eq];refine Classical.byContradiction fun hn=>?_;have h2:=pP (id:=u.id) (l:=p) ha hn;unfold opens stays at h;simp only[Bool.and_eq_true,decide_eq_true_eq,Bool.not_eq_true',decide_eq_false_iff_not]at h;rw[h2]at h;rcases abm hn with h3|h3
 ·exact h.2 h3
 ·exact h.1.2 h3
end Go.Esc.M
namespace Go.Esc.M
open Go Go.Esc
theorem iY.stands {f:StF}(I:iY f) {n m:Nat}(h1:f.s.atA.toNat≤n) (h2:n≤f.o.length) (h3:f.s.heldB.toNat≤m) (h4:m≤f.p.length) :
  kx f n m=foldM f.s.bo f.s.bp (f.o.take n) (f.p.take m)/\(foldM f.s.bo f.s.bp (f.o.take n) (f.p.take m)).e=0/\lG (foldM f.s.bo f.s.bp (f.o.take n) (f.p.take m)).o (foldM f.s.bo f.s.bp (f.o.take n) (f.p.take m)).q (foldM f.s.bo f.s.bp (f.o.take n) (f.p.take m)).l=true:=by
 obtain⟨e1,e2⟩:=I.book.taken h1 h2 h3 h4;rw[e2]at e1;refine⟨e2,e1,(vc _ _ _).2 ?_⟩;obtain⟨va,vb,x0,y0,he⟩:=HX e1;have hl:=C8 (bo:=f.s.bo) (bp:=f.s.bp) va vb (by have:=I.cap;have:=I.capm;omega);have hc:=abJ (f.o.take n) (f.p.take m);have c1:=aa3 (o:=f.o) (p:=f.p) (a:=f.s.heldB) (n:=n) (m:=m) h3 I.vo;have c2:=aa3 (o:=f.p) (p:=f.o) (a:=f.s.atA) (n:=m) (m:=n) h1 I.vp;have:=I.no;have:=I.np;have hx:=hl.1 y0;have hy:=hl.2 x0;rw[he];refine⟨x0,by unfold jb;exact hx,y0,by unfold jb;exact hy,?_,?_,abG va vb ?_ ?_⟩
 ·show cnt true (oN (f.o.take n) (f.p.take m))≤483;rw[hc.1];omega
 ·show cnt false (oN (f.o.take n) (f.p.take m))≤483;rw[hc.2];omega
 ·exact ui (aaX I.go n)
 ·exact ui (aaX I.gp m)
def isU (m:cr):Prop:=m.kind=1\/m.kind=2\/m.kind=3
instance (m:cr):Decidable (isU m):=by unfold isU;infer_instance
def abW (f:StF) (m:cr):RcM:={ RcM.zero with kind:=4,index:=f.s.ack,secret:=m.secret,point:=m.hash }
def abY (f:StF) (u:aL):StF:=⟨f.s,f.o,f.p++[u],f.h⟩
def rcv (f:StF) (m:cr):StF:=if isU m then abY f (Bw m) else if m.kind=4 then yy f m.index m.hash else uQ f (abW f m)
def aay (f:StF) (q:List cr):StF:=q.foldl rcv f
theorem aaJ (f:StF) (m:cr) (q:List cr):aay f (m::q)=aay (rcv f m) q:=rfl
theorem aaP (f:StF) (q:List cr) (m:cr):aay f (q++[m])=rcv (aay f q) m:=by
 unfold aay;rw[List.foldl_append];rfl
structure aaF (c d:CfM) (f:StF) (m:cr):Prop where
 ok:m.ok
 upd:isU m->vu f (Bw m)=0
 came:m.kind=4->(mU c f m).e=0
 rev:¬ isU m->m.kind≠4->(jR f m).2=0/\m=qC d f.s.ack
def aaG (c d:CfM):StF->List cr->Prop
 | _,[]=>True
 | f,m::q=>aaF c d f m/\aaG c d (rcv f m) q
theorem aaL {c d:CfM}:∀ {q:List cr}{f:StF}{m:cr},aaG c d f q->aaF c d (aay f q) m->aaG c d f (q++[m])
 | [],_,_,_,h2=>⟨h2,trivial⟩
 | _::_,_,_,h1,h2=>⟨h1.1,aaL h1.2 h2⟩
structure aaK (d:CfM) (f:StF):Prop where
 a:f.s.ptsA=pB d.seed f.s.ack
 b:f.s.ptsB=pB d.seed (f.s.ack+1)
 h:abz d.seed f.h f.s.ack.toNat
 failed:f.s.failed=0
 closed:f.s.closed=-1
theorem aaK.live {d:CfM}{f:StF}(h:aaK d f):uO f.s=false:=by
 unfold uO;rw[h.failed,h.closed];rfl
theorem aa2 {d:CfM}{n:Int}(h0:0≤n) (h1:n≤281474976710653):qC d n={ cr.zero with kind:=5,index:=n,secret:=(jS d.seed n).1,hash:=pB d.seed (n+2) }:=by
 unfold qC;rw[if_neg (by omega)];rfl
section
variable {c d:CfM}{f:StF}{m:cr}
theorem aaF.next (h:aaF c d f m) (I:iY f) (k:aaK d f):iY (rcv f m)/\aaK d (rcv f m):=by
 unfold rcv;by_cases h1:isU m
 ·rw[if_pos h1];exact⟨(I.heard (vF h.ok) (h.upd h1)).1,⟨k.a,k.b,k.h,k.failed,k.closed⟩⟩
 ·rw[if_neg h1];by_cases h4:m.kind=4
  ·rw[if_pos h4];obtain⟨_,_,hs,_⟩:=I.came (c:=c) h.ok (h.came h4);exact⟨hs,⟨k.a,k.b,k.h,k.failed,k.closed⟩⟩
  ·rw[if_neg h4];obtain⟨hr,hm⟩:=h.rev h1 h4;obtain⟨_,_,hs,_,_,_,hrem,_,_⟩:=I.y8 h.ok hr;refine⟨hs,?_⟩;have h0:=I.ack0;have h9:=I.rem1;by_cases hb:f.s.ack≤281474976710653
   ·obtain⟨x,hx⟩:∃ x,x=qC d f.s.ack:=⟨_,rfl⟩;have he:=aa2 (d:=d) h0 hb;rw[<- hx]at hm he;have e1:m.secret=(jS d.seed f.s.ack).1:=(by rw[hm,he]);have e2:m.hash=pB d.seed (f.s.ack+2):=(by rw[hm,he]);obtain⟨n,hn⟩:∃ n:Nat,f.s.ack=(n:Int):=⟨f.s.ack.toNat,by omega⟩;have hsh:=k.h;rw[hn,Int.toNat_natCast]at hsh;refine⟨k.b,?_,?_,k.failed,k.closed⟩
    ·show m.hash=pB d.seed (f.s.ack+1+1);rw[e2];congr 1;omega
    ·show abz d.seed (tw f.h f.s.ack m.secret).1 (f.s.ack+1).toNat;rw[e1,hn,show ((n:Int)+1).toNat=n+1 by omega];exact (aa9 hsh (by omega)).2
   ·exfalso;have e:qC d f.s.ack=cr.zero:=by
     unfold qC;rw[if_pos (by omega)]
    rw[e]at hm;have hk:m.kind=5:=(I.y8 h.ok hr).2.2.2.2.1;rw[hm]at hk;cases hk
theorem aaI:∀ {q:List cr}{f:StF},aaG c d f q->iY f->aaK d f->iY (aay f q)/\aaK d (aay f q)
 | [],_,_,I,k=>⟨I,k⟩
 | _::_,_,h,I,k=>by
  obtain⟨I',k'⟩:=h.1.next I k
  have:=aaI h.2 I' k';exact this
structure aaZ (f g:StF):Prop where
 o:g.o=f.o
 side:g.s.side=f.s.side
 bo:g.s.bo=f.s.bo
 bp:g.s.bp=f.s.bp
 rem:g.s.rem=f.s.rem
 sgnA:g.s.sgnA=f.s.sgnA
 sgnB:g.s.sgnB=f.s.sgnB
 p:∃ Y,g.p=f.p++Y
 loc:f.s.loc≤g.s.loc
 at_:g.s.loc=f.s.loc->g.s.atA=f.s.atA/\g.s.atB=f.s.atB
 ack:f.s.ack≤g.s.ack
 held:g.s.ack=f.s.ack->g.s.heldA=f.s.heldA/\g.s.heldB=f.s.heldB
theorem aaZ.refl (f:StF):aaZ f f:=⟨rfl,rfl,rfl,rfl,rfl,rfl,rfl,⟨[],by simp⟩,Int.le_refl _,fun _=>⟨rfl,rfl⟩,Int.le_refl _,fun _=>⟨rfl,rfl⟩⟩
theorem aaZ.trans {f g e:StF}(h:aaZ f g) (k:aaZ g e):aaZ f e:=by
 obtain⟨Y,hY⟩:=h.p;obtain⟨Z,hZ⟩:=k.p;refine⟨k.o.trans h.o,k.side.trans h.side,k.bo.trans h.bo,k.bp.trans h.bp,k.rem.trans h.rem,k.sgnA.trans h.sgnA,k.sgnB.trans h.sgnB,⟨Y++Z,by rw[hZ,hY,List.append_assoc]⟩,Int.le_trans h.loc k.loc,fun e=>?_,Int.le_trans h.ack k.ack,fun e=>?_⟩
 ·have h1:=h.loc;have h2:=k.loc;have a:=h.at_ (by omega);have b:=k.at_ (by omega);exact⟨b.1.trans a.1,b.2.trans a.2⟩
 ·have h1:=h.ack;have h2:=k.ack;have a:=h.held (by omega);have b:=k.held (by omega);exact⟨b.1.trans a.1,b.2.trans a.2⟩
theorem aaF.abr (h:aaF c d f m) (I:iY f):aaZ f (rcv f m):=by
 unfold rcv;by_cases h1:isU m
 ·rw[if_pos h1];exact⟨rfl,rfl,rfl,rfl,rfl,rfl,rfl,⟨_,rfl⟩,Int.le_refl _,fun _=>⟨rfl,rfl⟩,Int.le_refl _,fun _=>⟨rfl,rfl⟩⟩
 ·rw[if_neg h1];by_cases h4:m.kind=4
  ·rw[if_pos h4];obtain⟨_,_,_,_,_,hi⟩:=I.came (c:=c) h.ok (h.came h4);refine⟨rfl,rfl,rfl,rfl,rfl,rfl,rfl,⟨[],(List.append_nil _).symm⟩,?_,fun e=>?_,Int.le_refl _,fun _=>⟨rfl,rfl⟩⟩
   ·show f.s.loc≤m.index;omega
   ·have e:m.index=f.s.loc:=e;omega
  ·rw[if_neg h4];refine⟨rfl,rfl,rfl,rfl,rfl,rfl,rfl,⟨[],(List.append_nil _).symm⟩,Int.le_refl _,fun _=>⟨rfl,rfl⟩,?_,fun e=>?_⟩
   ·show f.s.ack≤f.s.ack+1;omega
   ·have e:f.s.ack+1=f.s.ack:=e;omega
theorem aaA:∀ {q:List cr}{f:StF},aaG c d f q->iY f->aaK d f->aaZ f (aay f q)
 | [],f,_,_,_=>aaZ.refl f
 | _::_,_,h,I,k=>by
  obtain⟨I',k'⟩:=h.1.next I k
  have:=aaA h.2 I' k';exact (h.1.abr I).trans this
theorem abt {w:aL}{ca cb:Int}(h:ca≤(f.o.length:Nat)):mN f.s.bo f.s.bp (f.o++[w]) f.p ca cb=mN f.s.bo f.s.bp f.o f.p ca cb\/ca<0:=by
 by_cases h0:ca<0
 ·exact .inr h0
 refine .inl ?_;have e:inC ca cb (f.o++[w]) f.p ↔ inC ca cb f.o f.p:=by
  unfold inC;rw[List.length_append,List.length_singleton];constructor
  ·rintro⟨a,b,c⟩;exact⟨a,h,c⟩
  ·rintro⟨a,b,c⟩;exact⟨a,by omega,c⟩
 unfold mN;rw[nu f.o w (by omega)];by_cases hi:inC ca cb f.o f.p/\amt f.s.bo/\amt f.s.bp/\amt (f.s.bo+f.s.bp)
 ·rw[if_pos hi,if_pos ⟨e.2 hi.1,hi.2⟩]
 ·rw[if_neg hi,if_neg fun hh=>hi ⟨e.1 hh.1,hh.2⟩]
theorem abq {base:Int}{mine others Y:List aL}{fm a b:Nat}(v0:∀ u∈mine,dp u=true) (v1:∀ u∈others++Y,dp u=true) (hab:a≤b) (hb:b≤others.length):SB base mine others fm a≤SB base mine (others++Y) fm b:=by
 unfold SB;rw[List.take_append_of_le_length hb,oq];have h1:=Gz (f:=kD (mine.take fm)) (l:=Y) fun u hu=>ra (v1 u (by simp[hu]));have h2:gG (stays (others.take b)) mine≤gG (stays (others.take a)) mine:=by
  refine tS (fun u hu=>ra (v0 u hu)) fun u hu h=>?_;unfold stays at h ⊢;simp only[Bool.and_eq_true,decide_eq_true_eq,Bool.not_eq_true',decide_eq_false_iff_not]at h ⊢;refine⟨h.1,fun h3=>h.2 ?_⟩;rw[pP hab (by rw[h3];decide)];exact h3
 omega
theorem abh {u w:aL}(I:iY f) (J:iY (q6 f w)) (h:vu f u=0):vu (q6 f w) u=0:=by
 have hA:f.s.atA.toNat≤f.o.length:=toNat_le (by have:=I.a1;have:=I.a2;have:=I.a3;omega);have e1:(f.o++[w]).take f.s.atA.toNat=f.o.take f.s.atA.toNat:=nu f.o w hA;unfold vu at h ⊢;split at h
 ·cases h
 rename_i h1;rw[if_neg (show ¬ uO (q6 f w).s=true from h1)];split at h
 ·cases h
 rename_i h2;rw[if_neg (show ¬ 512≤IntKind.i64.wrap (((q6 f w).p.length:Int)-(q6 f w).s.atB) from h2)];split at h
 ·cases h
 rename_i h3;have h3:kJ f.p f.o u=0:=Classical.byContradiction h3;rw[if_neg (show ¬ kJ (q6 f w).p (q6 f w).o u≠0 from fun hh=>hh (vn h3)),J.fA];rw[I.fA]at h;have e2:cw (q6 f w).o (q6 f w).s.atA=cw f.o f.s.atA:=e1;by_cases hk:u.kind=1
 ·rw[if_pos hk]at h ⊢;have e3:kX (q6 f w).p (q6 f w).o (q6 f w).s.atA=kX f.p f.o f.s.atA:=by unfold kX;rw[e2];rfl
  rw[e3];split at h
  ·cases h
  rename_i h4;rw[if_neg h4];split at h
  ·cases h
  rename_i h5;rw[I.xk.1]at h5;rw[J.xk.1];have hg:=abq (base:=f.s.bp) (mine:=f.p) (others:=f.o) (Y:=[w]) (fm:=f.s.heldB.toNat) (a:=f.s.atA.toNat) (b:=f.s.atA.toNat) I.vp J.vo (Nat.le_refl _) hA;rw[if_neg];show ¬ SB f.s.bp f.p (f.o++[w]) f.s.heldB.toNat f.s.atA.toNat<u.amount;omega
 ·rw[if_neg hk]at h ⊢;rw[e2];exact h
theorem abC {w:aL}{n ca cb:Int}(h0:0≤ca) (h:ca≤(f.o.length:Nat)):yV c (q6 f w) n ca cb=yV c f n ca cb:=by
 have e:kx (q6 f w) ca cb=kx f ca cb:=(abt (w:=w) (cb:=cb) h).resolve_right (by omega);unfold yV;rw[e];rfl
theorem abv {w:aL}(I:iY f):mU c (q6 f w) m=mU c f m:=by
 have e:=abC (c:=c) (w:=w) (n:=m.index) (cb:=(f.p.length:Nat)) (f:=f) (ca:=f.s.heldA) (by have:=I.a0;have:=I.a1;omega) (by have:=I.a2;have:=I.a3;omega);unfold mU;rw[show yV c (q6 f w) m.index (q6 f w).s.heldA ((q6 f w).p.length:Nat)=yV c f m.index f.s.heldA (f.p.length:Nat) from e];rfl
theorem aaW {w:aL}:rcv (q6 f w) m=q6 (rcv f m) w:=by
 unfold rcv;by_cases h1:isU m
 ·rw[if_pos h1,if_pos h1];rfl
 ·rw[if_neg h1,if_neg h1];by_cases h4:m.kind=4
  ·rw[if_pos h4,if_pos h4];rfl
  ·rw[if_neg h4,if_neg h4];rfl
theorem aaT {w:aL}:∀ {q:List cr}{f:StF},aaG c d f q->iY f->iY (q6 f w)->aaK d f->aaG c d (q6 f w) q/\aay (q6 f w) q=q6 (aay f q) w/\iY (q6 (aay f q) w)
 | [],_,_,_,J,_=>⟨trivial,rfl,J⟩
 | m::q,f,h,I,J,k=>by
  obtain⟨I',k'⟩:=h.1.next I k
  have ht:aaF c d (q6 f w) m:=by
   refine⟨h.1.ok,fun hu=>abh I J (h.1.upd hu),fun h4=>?_,h.1.rev⟩;rw[abv I];exact h.1.came h4
  have J':=(ht.next J ⟨k.a,k.b,k.h,k.failed,k.closed⟩).1;rw[aaW]at J';obtain⟨a,b,e⟩:=aaT h.2 I' J' k';exact⟨⟨ht,by rw[aaW];exact a⟩,by rw[aaJ,aaW];exact b,e⟩
def aaV (f:StF) (b:Bool):StF:=⟨{ f.s with behind:=b },f.o,f.p,f.h⟩
theorem abK {r:RcM}{b:Bool}:mU c (aaV (yG f r) b) m=mU c f m:=by
 unfold mU;rw[show yV c (aaV (yG f r) b) m.index (aaV (yG f r) b).s.heldA ((aaV (yG f r) b).p.length:Nat)=yV c f m.index f.s.heldA (f.p.length:Nat) from rfl];rfl
theorem aa1 {r:RcM}:∀ {q:List cr}{f:StF}(b:Bool),aaG c d f q->iY f->aaK d f->(aay f q).s.ack=f.s.ack->aaG c d (aaV (yG f r) b) q/\∃ b',aay (aaV (yG f r) b) q=aaV (yG (aay f q) r) b'
 | [],_,b,_,_,_,_=>⟨trivial,b,rfl⟩
 | m::q,f,b,h,I,k,he=>by
  obtain⟨I',k'⟩:=h.1.next I k
  have o1:=h.1.abr I;have o2:=aaA h.2 I' k';have e1:(rcv f m).s.ack=f.s.ack:=by
   have a:=o1.ack;have b:=o2.ack;rw[aaJ]at he;omega
  have hn:isU m\/m.kind=4:=by
   refine Classical.byContradiction fun hh=>?_;have h1:¬ isU m:=fun x=>hh (.inl x);have h4:m.kind≠4:=fun x=>hh (.inr x);unfold rcv at e1;rw[if_neg h1,if_neg h4]at e1;have e1:f.s.ack+1=f.s.ack:=e1;omega
  obtain⟨b',er⟩:∃ b',rcv (aaV (yG f r) b) m=aaV (yG (rcv f m) r) b':=by
   unfold rcv;by_cases h1:isU m
   ·rw[if_pos h1,if_pos h1];exact⟨b,rfl⟩
   ·rw[if_neg h1,if_neg h1,if_pos (hn.resolve_left h1),if_pos (hn.resolve_left h1)];exact⟨false,rfl⟩
  have ht:aaF c d (aaV (yG f r) b) m:=by
   refine⟨h.1.ok,fun hu=>h.1.upd hu,fun h4=>?_,fun h1 h4=>absurd hn (fun x=>x.elim h1 h4)⟩;rw[abK];exact h.1.came h4
  obtain⟨a,z,e⟩:=aa1 (r:=r) b' h.2 I' k' (by rw[aaJ]at he;omega);exact⟨⟨ht,by rw[er];exact a⟩,z,by rw[aaJ,er];exact e⟩
end
end Go.Esc.M
