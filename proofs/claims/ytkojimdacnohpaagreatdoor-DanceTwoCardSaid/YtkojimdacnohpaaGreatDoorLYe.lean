import Derived.Test.YtkojimdacnohpaaGreatDoorLWk
import Derived.Test.YtkojimdacnohpaaGreatDoorLUh
import Derived.Test.YtkojimdacnohpaaGreatDoorLVg
set_option maxHeartbeats 4000000
set_option linter.unusedSimpArgs false
set_option linter.unusedVariables false
set_option maxRecDepth 20000
namespace Go.Esc.M
open Go Go.Esc
def jj.zero:jj:=⟨0,false,0,0,h0,[],0⟩
theorem jj.bq:jj.zero.ok:=⟨cL,cL,cL,rfl,by simp[jj.zero],cL⟩
theorem abw:bj T ja []=some jj.zero.av:=rfl
theorem abl {m:cr}(h:m.ok):yE m jj.zero=m:=by
 have h1:=h.index
 unfold yE
 have e:jj.zero.index=0:=rfl
 have e2:¬ jj.zero.note=[98,101,110,100]:=by decide
 rw[e,if_neg e2,Int.add_zero,i64_in h1.1 h1.2]
def tF (f:StF) (o:jj):StF:=if o.kind=4 then yG f (lD f o).1 else q6 f (lD f o).1.upd
theorem iY.tF {f:StF}(I:iY f) {o:jj}(ho:o.ok) (h0:(lD f o).2=0):iY (tF f o)/\Bb f (lD f o).1 [] (tF f o):=by
 unfold M.tF
 unfold lD at h0 ⊢
 split at h0
 ·rename_i h1
  rw[if_pos h1,if_neg (by omega)]
  obtain⟨u,e,hu,_,hs,ha,_⟩:=I.offer ho.hash h0
  rw[e]
  exact⟨hs,ha⟩
 rename_i h1
 rw[if_neg h1]
 split at h0
 ·rename_i h2
  rw[if_pos h2,if_neg (by omega)]
  obtain⟨e,hs,ha⟩:=I.y9 (IB ho) (Gr _ _) (by show (2:Int)≠1;decide) h0
  rw[e]
  exact⟨hs,ha⟩
 rename_i h2
 rw[if_neg h2]
 split at h0
 ·rename_i h3
  rw[if_pos h3,if_neg (by omega)]
  obtain⟨e,hs,ha⟩:=I.y9 (Iy ho) (Gq _ _) (by show (3:Int)≠1;decide) h0
  rw[e]
  exact⟨hs,ha⟩
 rename_i h3
 rw[if_neg h3]
 split at h0
 ·rename_i h4
  rw[if_pos h4,if_pos h4]
  obtain⟨e,hr,hs,ha,_⟩:=I.sign h0
  rw[e]
  exact⟨hs,ha⟩
 ·cases h0
def sD (t:me) (s:Bool) (m:cr):me×Bool:=
 if m.kind=1\/m.kind=2\/m.kind=3 then (if vu (t.f s) (Bw m)=0 then (kq t s ⟨(t.f s).s,(t.f s).o,(t.f s).p++[Bw m],(t.f s).h⟩,true) else (t,false))
 else if (mU (t.c s) (t.f s) m).e=0 then (uD t s (AO m) (yy (t.f s) m.index m.hash),true)
 else if (jR (t.f s) m).2=0 then (uD t s (jR (t.f s) m).1 (uQ (t.f s) (jR (t.f s) m).1),true) else (t,false)
theorem kK.more {t:me}{n m:Nat}(k:kK t n) (h:n≤m):kK t m:={ c:=k.c,f:=k.f,q:=k.q,n:=fun s=>Nat.le_trans (k.n s) h }
theorem H6 {t:me}{n:Nat}(k:kK t n) {s:Bool}{m:cr}(hm:m.ok):kK (sD t s m).1 (n+1):=by
 have I:=k.f s
 unfold sD
 split
 ·split
  ·rename_i h
   exact (sT k (I.heard (vF hm) h).1).more (by omega)
  ·exact k.more (by omega)
 split
 ·rename_i h
  obtain⟨_,h2,h3,_⟩:=I.came (c:=t.c s) hm h
  exact CR k h2 h3
 split
 ·rename_i h
  obtain⟨e,h2,h3,_⟩:=I.y8 hm h
  rw[e]
  exact CR k h2 h3
 ·exact k.more (by omega)
section
variable {F0:List AId}{G0 G:ak}{ps:List LP}{Q:ah->ak->Prop}{tb:AId}{t:me}{l:Bool->Ls}{w:Bool->ah}
theorem Sp.one {p:LP}{F:List AId}(h:p.p G F) (c:Ch F0 G0 F G):Sp F0 G0 [p] G:=⟨[F],⟨h,by simp,trivial⟩,by simpa using c⟩
theorem Hx (s:Bool):bt T aE (aS tb s) 5=some (.ptr tb [1,bN s,5] (328+(bN s*115+5))):=by cases s<;>rfl
theorem IG {n:Nat}{s:Bool}{x:ah}{q:List aL}{K:ak->Prop}(h:Sp F0 G0 [jP tb t,bm 36 x (q.map aL.av)] G) (k:kK t n)
  (hK:∀ G',Sp F0 G0 [jP tb (kq t s ⟨(t.f s).s,(t.f s).o,q,(t.f s).h⟩)] G'->K G'):wg (aF T G aj (.ptr tb [1,bN s,5] (328+(bN s*115+5))) x) K:=by
 obtain⟨l,w,h2⟩:=Sp.BS h
 have a:=Sp.DQ h2
 have hx:=(bm.own (i:=9) h2 rfl).leaf
 cases s
 ·refine fg (st3 a.g (a.szl k) rfl rfl (a.szS k) rfl rfl (StM.szl (k.f false).ok (a.lv false)) rfl rfl rfl bT (kF hx rfl) (by rw[(a.lv false).2.1.1,hx.1]) hx.2.2) (hK _ ?_)
  have h3:=Sp.setRow (j:=0) h2 rfl (oU (kq t false ⟨(t.f false).s,(t.f false).o,q,(t.f false).h⟩) (mg l false ⟨(l false).o,x,(l false).h⟩) w)
  have h4:=Sp.pick h3 [0,1,9,3,4,5,6,7,8] (by decide) (by intro y hy;simp at hy ⊢;omega)
  exact Sp.qW (ps:=[]) (t:=kq t false ⟨(t.f false).s,(t.f false).o,q,(t.f false).h⟩) (l:=mg l false ⟨(l false).o,x,(l false).h⟩) (w:=w) h4
 ·refine fg (st3 a.g (a.szl k) rfl rfl (a.szS k) rfl rfl (StM.szl (k.f true).ok (a.lv true)) rfl rfl rfl bT (kF hx rfl) (by rw[(a.lv true).2.1.1,hx.1]) hx.2.2) (hK _ ?_)
  have h3:=Sp.setRow (j:=0) h2 rfl (oU (kq t true ⟨(t.f true).s,(t.f true).o,q,(t.f true).h⟩) (mg l true ⟨(l true).o,x,(l true).h⟩) w)
  have h4:=Sp.pick h3 [0,1,2,3,4,9,6,7,8] (by decide) (by intro y hy;simp at hy ⊢;omega)
  exact Sp.qW (ps:=[]) (t:=kq t true ⟨(t.f true).s,(t.f true).o,q,(t.f true).h⟩) (l:=mg l true ⟨(l true).o,x,(l true).h⟩) (w:=w) h4
end
end Go.Esc.M
namespace Go.Esc.M
open Go Go.Esc
def mea (f:StF):Nat:=f.o.length+f.s.sgnA.toNat+f.s.sgnB.toNat+f.s.atA.toNat+f.s.atB.toNat
theorem LG {f:StF}(I:iY f):mea f≤10240:=by
 have:=I.lo
 have:=I.lp
 have:=I.a0
 have:=I.a1
 have:=I.a2
 have:=I.a3
 have:=I.b0
 have:=I.b1
 have:=I.b2
 have:=I.b3
 unfold mea
 omega
def Few (t:me):Prop:=∀ s,(t.q (!s)).length≤mea (t.f s)
theorem LN {t:me}{n:Nat}(k:kK t n) (h:Few t):kK t 10240:=
 { c:=k.c,f:=k.f,q:=k.q,n:=fun s=>by have h1:=h (!s);rw[Bool.not_not]at h1;exact Nat.le_trans h1 (LG (k.f (!s))) }
theorem Ce {t:me}{s:Bool}{f:StF}(h:Few t) (hm:mea (t.f s)≤mea f):Few (kq t s f):=by
 intro r
 show (t.q (!r)).length≤mea (mg t.f s f r)
 by_cases e:r=s
 ·subst e
  rw[ox]
  exact Nat.le_trans (h r) hm
 ·rw[qF _ _ e]
  exact h r
theorem H2 {t:me}{s:Bool}{q:List cr}(h:Few t) (hq:q.length≤(t.q s).length):Few (oW t s q):=by
 intro r
 show (mg t.q s q (!r)).length≤mea (t.f r)
 by_cases e:(!r)=s
 ·rw[e,ox]
  have:=h r
  rw[e]at this
  omega
 ·rw[qF _ _ e]
  exact h r
theorem AF {t:me}{s:Bool}{r:RcM}{f':StF}(h:Few t) (hm:(sL (t.c s) (t.f s) f' r).length+mea (t.f s)≤mea f'):Few (uD t s r f'):=by
 intro x
 show (mg t.q (!s) (t.q (!s)++sL (t.c s) (t.f s) f' r) (!x)).length≤mea (mg t.f s f' x)
 by_cases e:x=s
 ·subst e
  rw[ox,ox,List.length_append]
  have:=h x
  omega
 ·have e2:(!x)≠(!s):=fun hh=>e (by cases x<;>cases s<;>simp_all)
  rw[qF _ _ e,qF _ _ e2]
  exact h x
theorem Jk {f:StF}(I:iY f) {o:jj}(h0:(lD f o).2=0):1+mea f≤mea (tF f o):=by
 have ho:∀ u,1+mea f≤mea (q6 f u):=by
  intro u
  unfold mea q6
  simp only[List.length_append,List.length_singleton]
  omega
 unfold tF
 by_cases h4:o.kind=4
 ·rw[if_pos h4]
  have e:lD f o=p6 f:=by unfold lD;rw[if_neg (by omega),if_neg (by omega),if_neg (by omega),if_pos h4]
  rw[e]at h0 ⊢
  unfold p6 at h0 ⊢
  split at h0
  ·cases h0
  rename_i h1
  rw[if_neg h1]
  split at h0
  ·cases h0
  rename_i h2
  rw[if_neg h2]
  split at h0
  ·cases h0
  rename_i h3
  rw[if_neg h3]
  have h5:¬ ((f.o.length:Int)=f.s.sgnA/\f.s.atB=f.s.sgnB):=fun h=>h2 (.inr h)
  have:=I.a0
  have:=I.a1
  have:=I.a2
  have:=I.a3
  have:=I.b0
  have:=I.b1
  have:=I.b2
  show 1+mea f≤f.o.length+((f.o.length:Nat):Int).toNat+f.s.atB.toNat+f.s.atA.toNat+f.s.atB.toNat
  unfold mea
  omega
 ·rw[if_neg h4]
  exact ho _
theorem Jj {c:CfM}{f:StF}(I:iY f) {m:cr}(h0:(mU c f m).e=0):1+mea f≤mea (yy f m.index m.hash):=by
 unfold mU at h0
 split at h0
 ·cases h0
 split at h0
 ·cases h0
 split at h0
 ·cases h0
 split at h0
 ·cases h0
 rename_i h4
 have:=I.a0
 have:=I.a1
 have:=I.b0
 have:=I.b1
 have:=I.b2
 have:=I.b3
 show 1+mea f≤f.o.length+f.s.sgnA.toNat+f.s.sgnB.toNat+f.s.heldA.toNat+((f.p.length:Nat):Int).toNat
 unfold mea
 omega
theorem H4 {t:me}{n:Nat}(k:kK t n) (h:Few t) {s:Bool}{m:cr}(hm:m.ok):Few (sD t s m).1:=by
 have I:=k.f s
 unfold sD
 split
 ·split
  ·exact Ce h (Nat.le_refl _)
  ·exact h
 split
 ·rename_i h0
  refine AF h ?_
  have:=Jj (c:=t.c s) I h0
  have:=xn (t.c s) (t.f s) (yy (t.f s) m.index m.hash) (AO m)
  omega
 split
 ·rename_i h0
  obtain⟨e,_⟩:=I.y8 hm h0
  rw[e]
  refine AF h ?_
  show 0+mea (t.f s)≤mea (t.f s)
  omega
 ·exact h
theorem JF {t:me}{n:Nat}(k:kK t n) (h:Few t) {s:Bool}{o:jj}(h0:(lD (t.f s) o).2=0):Few (uD t s (lD (t.f s) o).1 (tF (t.f s) o)):=by
 refine AF h ?_
 have:=Jk (k.f s) h0
 have:=xn (t.c s) (t.f s) (tF (t.f s) o) (lD (t.f s) o).1
 omega
theorem KJ (d:DlM):Few (Ig d):=fun s=>Nat.zero_le _
end Go.Esc.M
namespace Go.Esc.M
open Go Go.Esc
theorem J9 {G:ak}{R d:Nat}{v:ah}{m:Nat}(h:wt T G R (d+3) ja v m):∃ o:jj,v=o.av/\o.ok:=by
 obtain⟨cs,ms,rfl,hf,rfl⟩:=wP kI rfl h
 obtain⟨c1,cs,m1,ms,rfl,rfl,h1,hf⟩:=nA hf
 obtain⟨c2,cs,m2,ms,rfl,rfl,h2,hf⟩:=nA hf
 obtain⟨c3,cs,m3,ms,rfl,rfl,h3,hf⟩:=nA hf
 obtain⟨c4,cs,m4,ms,rfl,rfl,h4,hf⟩:=nA hf
 obtain⟨c5,cs,m5,ms,rfl,rfl,h5,hf⟩:=nA hf
 obtain⟨c6,cs,m6,ms,rfl,rfl,h6,hf⟩:=nA hf
 obtain⟨c7,cs,m7,ms,rfl,rfl,h7,hf⟩:=nA hf
 obtain⟨rfl,rfl⟩:=Gk hf
 obtain⟨a1,rfl,w1,_⟩:=wQ iD rfl h1
 obtain⟨a2,rfl,_⟩:=J8 lL rfl h2
 obtain⟨a3,rfl,w3,_⟩:=wQ cu rfl h3
 obtain⟨a4,rfl,w4,_⟩:=wQ cu rfl h4
 obtain⟨a5,rfl,w5,_⟩:=Cw bZ rfl cW rfl h5
 obtain⟨a6,rfl,hR,hn,_⟩:=Lj fS rfl h6
 obtain⟨a7,rfl,w7,_⟩:=wQ cu rfl h7
 exact⟨⟨a1,a2,a3,a4,a5,a6,a7⟩,rfl,⟨vt.1 w1,vt.1 w3,vt.1 w4,w5,hn,vt.1 w7⟩⟩
theorem Ka {G:ak}{R d:Nat}{v:ah}{m:Nat}(h:wt T G R (d+4) jd v m):∃ l:List jj,sS 38 G v (l.map jj.av)/\(∀ u∈l,u.ok)/\l.length≤R:=by
 obtain⟨xs,ms,hro,hall,hms,hR,_⟩:=Mc jj.av (fun u m=>u.ok/\1≤m) nV rfl kI (fun c m h=>by
  obtain⟨u,hu,ho⟩:=J9 h
  obtain⟨_,ms,_,_,e⟩:=wP kI rfl h
  exact⟨u,hu,ho,by omega⟩) h
 have e:kh.bytes=88:=rfl
 rw[e]at hR
 refine⟨xs,hro,fun u hu=>?_,by omega⟩
 obtain⟨m,hm,_⟩:=hall.mem hu
 exact hm.1
theorem Kb {G:ak}{R d:Nat}{v:ah}{m:Nat}(h:wt T G R (d+4) db v m):∃ x:DlM,v=x.av/\x.ok:=by
 obtain⟨cs,ms,rfl,hf,rfl⟩:=wP nf rfl h
 obtain⟨c1,cs,m1,ms,rfl,rfl,h1,hf⟩:=nA hf
 obtain⟨c2,cs,m2,ms,rfl,rfl,h2,hf⟩:=nA hf
 obtain⟨c3,cs,m3,ms,rfl,rfl,h3,hf⟩:=nA hf
 obtain⟨c4,cs,m4,ms,rfl,rfl,h4,hf⟩:=nA hf
 obtain⟨rfl,rfl⟩:=Gk hf
 obtain⟨a1,rfl,w1,_⟩:=wQ cu rfl h1
 obtain⟨a2,rfl,w2,_⟩:=wQ cu rfl h2
 obtain⟨a3,b3,rfl,w3,w3'⟩:=Du h3
 obtain⟨a4,b4,rfl,w4,w4'⟩:=Du h4
 exact⟨⟨a1,a2,a3,b3,a4,b4⟩,rfl,⟨vt.1 w1,vt.1 w2,w3,w3',w4,w4'⟩⟩
theorem Lt {G:ak}{v:ah}{l:List jj}{j:Nat}{u:jj}(h:ff 38 G v (l.map jj.av)) (hj:l[j]?=some u):∃ a,aO T jd v (.int .i64 (j:Int))=some a/\ag T G ja a=some u.av:=
 h.at_ (k:=.i64) (i:=kR) (ie:=kh) (T:=T) (t:=jd) (e:=ja) nV rfl kI (by rw[List.getElem?_map,hj];rfl) rfl
theorem GA {G:ak}{v:ah}{l:List jj}(h:ff 38 G v (l.map jj.av)):fU T G jd v=some (.int .i64 (l.length:Nat)):=by
 rw[h.len (i:=kR) nV rfl,List.length_map]
end Go.Esc.M
namespace Go.Esc.M
open Go Go.Esc
section
variable {F0:List AId}{G0 G:ak}{ps:List LP}{Q:ah->ak->Prop}
end
end Go.Esc.M
namespace Go.Esc.M
open Go Go.Esc
structure abz (root:List UInt8) (L:List b6) (n:Nat):Prop where
 len:L.length≤49
 slot:∀ j,(atS L j).full=true->∃ i:Nat,i<n/\atS L j=⟨(i:Int),mj (pl (i:Int)) 48 root,true⟩/\level (pl (i:Int))=j/\∀ m:Nat,m<n->level (pl (m:Int))=j->m≤i
 all:∀ m:Nat,m<n->(atS L (level (pl (m:Int)))).full=true
theorem aba (root:List UInt8):abz root [] 0:=by
 refine⟨by decide,fun j h=>?_,fun m h=>by omega⟩
 rw[wF (by simp)]at h
 cases h
theorem aa5 {i:Nat}(h:i≤281474976710655):okN (i:Int)=true/\pl (i:Int)+i=281474976710655:=by
 have h1:okN (i:Int)=true:=GJ.2 ⟨by omega,by omega⟩
 have:=(yg h1).1
 exact⟨h1,by omega⟩
theorem abM {root:List UInt8}{L:List b6}{n:Nat}(h:abz root L n) (hn:n<281474976710655):vl L (n:Int) (mj (pl (n:Int)) 48 root)=true:=by
 refine sb.2 fun j hj=>?_
 unfold vy
 cases hfu:(atS L j).full with
 | false=>rfl
 | true=>
  obtain⟨i,hi,he,hlj,hlast⟩:=h.slot j hfu
  obtain⟨hno,hpn⟩:=aa5 (i:=n) (by omega)
  obtain⟨hio,hpi⟩:=aa5 (i:=i) (by omega)
  obtain⟨lv,hlv⟩:∃ k,k=level (pl (n:Int)):=⟨_,rfl⟩
  have hle:=rq (pl (n:Int))
  have hjl:(2:Nat) ^ j<2 ^ lv:=Nat.pow_lt_pow_right (by decide) (by omega)
  have hpos:0<(2:Nat) ^ j:=Nat.pow_pos (by decide)
  have hnear:pl (n:Int)/2 ^ level (pl (n:Int))=pl (i:Int)/2 ^ level (pl (n:Int)):=by
   refine (abE (BZ _)).2 ⟨by omega,?_⟩
   rw[<- hlv]
   by_cases hb:n<2 ^ j
   ·omega
   ·obtain⟨m,hm⟩:∃ m,m=n-2 ^ j:=⟨_,rfl⟩
    obtain⟨hmo,hpm⟩:=aa5 (i:=m) (by omega)
    obtain⟨q,hq⟩:2 ^ (j+1) ∣ pl (n:Int):=Nat.dvd_trans (Nat.pow_dvd_pow 2 (by omega)) (BZ _)
    have hml:level (pl (m:Int))=j:=by
     refine Jo (m:=q) (by omega) ?_
     rw[Nat.mul_add,Nat.mul_one,<- Nat.mul_assoc,<- Nat.pow_succ]
     obtain⟨X,hX⟩:∃ X,X=2 ^ (j+1)*q:=⟨_,rfl⟩
     rw[<- hX]at hq ⊢
     omega
    have:=hlast m (by omega) hml
    omega
  have hv:=abI (a:=pl (n:Int)) (b:=pl (i:Int)) (k:=level (pl (n:Int))) (n:=48-level (pl (n:Int))) (x:=root) (BZ _) hnear
  rw[show level (pl (n:Int))+(48-level (pl (n:Int)))=48 by omega]at hv
  have hd:kN (mj (pl (n:Int)) 48 root) (n:Int) (i:Int)=(mj (pl (i:Int)) 48 root,0):=by
   unfold kN
   rw[hno,hio,Bool.and_self,cond_true,if_pos hnear,hv]
  rw[he]
  show (true && !decide (kN (mj (pl (n:Int)) 48 root) (n:Int) (i:Int)=(mj (pl (i:Int)) 48 root,0)))=false
  rw[hd,dT_ rfl]
  rfl
theorem abT {l:List b6}{n:Int}{secret:List UInt8}{j:Nat}:atS (Aq l n secret) j=if j<49 then (if j=level (pl n) then ⟨n,secret,true⟩ else atS l j) else oF:=by
 by_cases h:j<49
 ·rw[if_pos h]
  have e:(Aq l n secret)[j]?=some (if j=level (pl n) then ⟨n,secret,true⟩ else atS l j):=by
   unfold Aq
   rw[List.getElem?_map,List.getElem?_range h]
   rfl
  rw[A8 e]
  by_cases hj:j=level (pl n)
  ·rw[if_pos hj];rfl
  ·rw[if_neg hj]
   by_cases hf:(atS l j).full=true
   ·rw[if_pos hf]
   ·rw[if_neg hf]
    unfold atS at hf ⊢
    split
    ·rename_i h2;rw[if_pos h2]at hf;exact absurd h2 hf
    ·rfl
 ·rw[if_neg h,wF (by rw[HS];omega)]
theorem aa9 {root:List UInt8}{L:List b6}{n:Nat}(h:abz root L n) (hn:n<281474976710655):tw L (n:Int) (jS root (n:Int)).1=(Aq L (n:Int) (mj (pl (n:Int)) 48 root),0)/\abz root (tw L (n:Int) (jS root (n:Int)).1).1 (n+1):=by
 obtain⟨hno,hpn⟩:=aa5 (i:=n) (by omega)
 have hs:(jS root (n:Int)).1=mj (pl (n:Int)) 48 root:=by
  unfold jS
  rw[hno,cond_true]
 have he:tw L (n:Int) (jS root (n:Int)).1=(Aq L (n:Int) (mj (pl (n:Int)) 48 root),0):=by
  have:=h.len
  rw[hs]
  unfold tw
  rw[if_neg (by omega),if_pos hno,if_pos (abM h hn)]
 refine⟨he,?_⟩
 rw[he]
 have hat:=fun j=>abT (l:=L) (n:=(n:Int)) (secret:=mj (pl (n:Int)) 48 root) (j:=j)
 refine⟨by show (Aq L _ _).length≤49;rw[HS];omega,fun j hj=>?_,fun m hm=>?_⟩
 ·rw[show (Aq L (n:Int) (mj (pl (n:Int)) 48 root),(0:Int)).1=Aq L (n:Int) (mj (pl (n:Int)) 48 root) from rfl,hat]at hj ⊢
  by_cases h49:j<49
  ·rw[if_pos h49]at hj ⊢
   by_cases hjl:j=level (pl (n:Int))
   ·rw[if_pos hjl]
    exact⟨n,by omega,rfl,hjl.symm,fun m hm _=>by omega⟩
   ·rw[if_neg hjl]at hj ⊢
    obtain⟨i,h1,h2,h3,h4⟩:=h.slot j hj
    refine⟨i,by omega,h2,h3,fun m hm hl=>?_⟩
    by_cases hmn:m=n
    ·subst hmn
     exact absurd hl.symm hjl
    ·exact h4 m (by omega) hl
  ·rw[if_neg h49]at hj
   cases hj
 ·rw[show (Aq L (n:Int) (mj (pl (n:Int)) 48 root),(0:Int)).1=Aq L (n:Int) (mj (pl (n:Int)) 48 root) from rfl,hat]
  have:=rq (pl (m:Int))
  rw[if_pos (by omega)]
  by_cases hmn:level (pl (m:Int))=level (pl (n:Int))
  ·rw[if_pos hmn]
  ·rw[if_neg hmn]
   have:m≠n:=fun e=>hmn (by rw[e])
   exact h.all m (by omega)
theorem abn (b:Bool) (x y:List ba):cnt b (x++y)=cnt b x+cnt b y:=by
 unfold cnt
 rw[List.filter_append,List.length_append]
theorem abo {b:Bool}{l:List ba}(h:∀ p∈l,p.ours=b):cnt b l=l.length/\cnt (!b) l=0:=by
 unfold cnt
 rw[List.filter_eq_self.2 fun p hp=>by rw[h p hp];cases b<;>rfl,List.filter_eq_nil_iff.2 fun p hp=>by rw[h p hp];cases b<;>decide]
 exact⟨rfl,rfl⟩
theorem abJ (a b:List aL):cnt true (oN a b)=(a.filter (opens b)).length/\cnt false (oN a b)=(b.filter (opens a)).length:=by
 have h1:=abo (b:=true) (l:=kS (iX true (opens b) a)) rZ
 have h2:=abo (b:=false) (l:=kS (iX false (opens a) b)) rZ
 have h3:cnt false (kS (iX true (opens b) a))=0:=h1.2
 have h4:cnt true (kS (iX false (opens a) b))=0:=h2.2
 have e:∀ m f (l:List aL),(kS (iX m f l)).length=(l.filter f).length:=by
  intro m f l
  rw[xm]
  unfold iX
  rw[List.length_map]
 unfold oN
 rw[abn,abn,h1.1,h3,h2.1,h4,e,e]
 exact⟨rfl,by omega⟩
def ab4 (q p:ba):Prop:=¬ (p.ours=true/\q.ours=false)/\¬ (p.ours=q.ours/\p.id≤q.id)
theorem abD:∀ {l pre:List ba},(∀ p∈l,0≤p.id/\1≤p.amount/\p.amount≤jb)->(pre++l).Pairwise ab4->Okl pre l
 | [],_,_,_=>trivial
 | p::l,pre,h,hp=>by
  obtain⟨h1,h2,h3⟩:=h p (by simp)
  refine⟨⟨h1,h2,h3,fun q hq=>?_⟩,abD (fun x hx=>h x (by simp[hx])) (by simpa using hp)⟩
  exact (List.pairwise_append.1 hp).2.2 q hq p (by simp)
theorem aaS {m:Bool}{f:aL->Bool}{l:List aL}(hi:rA l) (hk:∀ u,f u=true->u.kind=1):(kS (iX m f l)).Pairwise fun q p=>q.id<p.id:=by
 have h0:l.Pairwise fun u w=>u.kind=1->w.kind=1->u.id≠w.id:=by
  rw[List.pairwise_iff_getElem]
  intro i j hi' hj' hij h1 h2 he
  have:=FF hi (List.getElem?_eq_getElem hi') (List.getElem?_eq_getElem hj') h1 h2 he
  omega
 have h1:(iX m f l).Pairwise fun q p=>q.id≠p.id:=by
  unfold iX
  rw[List.pairwise_map]
  have h2:=List.Pairwise.filter f h0
  refine List.Pairwise.imp_of_mem ?_ h2
  intro a b ha hb h
  exact h (hk a (List.mem_filter.1 ha).2) (hk b (List.mem_filter.1 hb).2)
 have hp:=(vP (iX m f l)).1.perm
 have h2:(kS (iX m f l)).Pairwise fun q p=>q.id≠p.id:=(hp.pairwise_iff (fun {a b} (h:a.id≠b.id)=>fun e=>h e.symm)).2 h1
 have h3:=(vP (iX m f l)).2
 rw[List.pairwise_iff_getElem]
 intro i j hi' hj' hij
 have a:=(List.pairwise_iff_getElem.1 h2) i j hi' hj' hij
 have b:=(List.pairwise_iff_getElem.1 h3) i j hi' hj' hij
 omega
theorem aaC {r:List aL}{u:aL}(h:opens r u=true):u.kind=1:=by
 simp[opens,stays]at h
 exact h.1.1
theorem abG {a b:List aL}(va:∀ u∈a,dp u=true) (vb:∀ u∈b,dp u=true) (ia:rA a) (ib:rA b):Okl [] (oN a b):=by
 have mem:∀ {m:Bool}{f:aL->Bool}{l:List aL},(∀ u,f u=true->u.kind=1)->(∀ u∈l,dp u=true)->∀ p∈kS (iX m f l),0≤p.id/\1≤p.amount/\p.amount≤jb:=by
  intro m f l hk hv p hp
  have:=(vP (iX m f l)).1.mem.1 hp
  obtain⟨u,hu,rfl⟩:=List.mem_map.1 this
  obtain⟨h1,h2⟩:=List.mem_filter.1 hu
  obtain⟨c1,_,c2⟩:=lW (hv u h1)
  have:=hk u h2
  show 0≤u.id/\1≤u.amount/\u.amount≤jb
  unfold jb
  omega
 refine abD (fun p hp=>?_) ?_
 ·rcases List.mem_append.1 hp with hp|hp
  ·exact mem (fun u h=>aaC h) va p hp
  ·exact mem (fun u h=>aaC h) vb p hp
 ·rw[List.nil_append]
  unfold oN
  refine List.pairwise_append.2 ⟨?_,?_,?_⟩
  ·refine List.Pairwise.imp_of_mem ?_ (aaS ia fun u h=>aaC h)
   intro q p hq hp h
   exact⟨fun ⟨_,e⟩=>(by rw[rZ q hq]at e;cases e),fun ⟨_,e⟩=>by omega⟩
  ·refine List.Pairwise.imp_of_mem ?_ (aaS ib fun u h=>aaC h)
   intro q p hq hp h
   exact⟨fun ⟨e,_⟩=>(by rw[rZ p hp]at e;cases e),fun ⟨_,e⟩=>by omega⟩
  ·intro q hq p hp
   have e1:=rZ q hq
   have e2:=rZ p hp
   exact⟨fun ⟨e,_⟩=>(by rw[e2]at e;cases e),fun ⟨e,_⟩=>(by rw[e1,e2]at e;cases e)⟩
theorem abm {id:Int}:∀ {l:List aL},jH id l≠0->jH id l=2\/jH id l=3
 | [],h=>absurd rfl h
 | u::l,h=>by
  by_cases hr:m8 id u=true
  ·have e:jH id (u::l)=u.kind:=if_pos hr
   rw[e]
   simp only[m8,Bool.and_eq_true,decide_eq_true_eq]at hr
   have:=(lW hr.2.2).2.2
   omega
  ·have e:jH id (u::l)=jH id l:=if_neg hr
   rw[e]at h ⊢
   exact abm h
theorem aa3 {o p:List aL}{a:Int}{n m:Nat}(ha:a.toNat≤m) (vo:∀ u∈o,dp u=true):((o.take n).filter (opens (p.take m))).length≤kX o p a:=by
 unfold kX ml cw
 rw[List.length_map]
 refine Nat.le_trans (List.Sublist.filter _ (List.take_sublist n o)).length_le ?_
 rw[<- List.countP_eq_length_filter,<- List.countP_eq_length_filter]
 refine List.countP_mono_left fun u hu h=>?_
 have hk:=aaC h
 rw[dT_ hk,vo u hu,Bool.true_and,Bool.true_and,decide_eq_true_eq]
 refine Classical.byContradiction fun hn=>?_
 have h2:=pP (id:=u.id) (l:=p) ha hn
 unfold opens stays at h
 simp only[Bool.and_eq_true,decide_eq_true_eq,Bool.not_eq_true',decide_eq_false_iff_not]at h
 rw[h2]at h
 rcases abm hn with h3|h3
 ·exact h.2 h3
 ·exact h.1.2 h3
end Go.Esc.M
namespace Go.Esc.M
open Go Go.Esc
theorem iY.stands {f:StF}(I:iY f) {n m:Nat}(h1:f.s.atA.toNat≤n) (h2:n≤f.o.length) (h3:f.s.heldB.toNat≤m) (h4:m≤f.p.length) :
  kx f n m=foldM f.s.bo f.s.bp (f.o.take n) (f.p.take m)/\(foldM f.s.bo f.s.bp (f.o.take n) (f.p.take m)).e=0/\lG (foldM f.s.bo f.s.bp (f.o.take n) (f.p.take m)).o (foldM f.s.bo f.s.bp (f.o.take n) (f.p.take m)).q (foldM f.s.bo f.s.bp (f.o.take n) (f.p.take m)).l=true:=by
 obtain⟨e1,e2⟩:=I.book.taken h1 h2 h3 h4
 rw[e2]at e1
 refine⟨e2,e1,(vc _ _ _).2 ?_⟩
 obtain⟨va,vb,x0,y0,he⟩:=HX e1
 have hl:=C8 (bo:=f.s.bo) (bp:=f.s.bp) va vb (by have:=I.cap;have:=I.capm;omega)
 have hc:=abJ (f.o.take n) (f.p.take m)
 have c1:=aa3 (o:=f.o) (p:=f.p) (a:=f.s.heldB) (n:=n) (m:=m) h3 I.vo
 have c2:=aa3 (o:=f.p) (p:=f.o) (a:=f.s.atA) (n:=m) (m:=n) h1 I.vp
 have:=I.no
 have:=I.np
 have hx:=hl.1 y0
 have hy:=hl.2 x0
 rw[he]
 refine⟨x0,by unfold jb;exact hx,y0,by unfold jb;exact hy,?_,?_,abG va vb ?_ ?_⟩
 ·show cnt true (oN (f.o.take n) (f.p.take m))≤483
  rw[hc.1];omega
 ·show cnt false (oN (f.o.take n) (f.p.take m))≤483
  rw[hc.2];omega
 ·exact ui (aaX I.go n)
 ·exact ui (aaX I.gp m)
def isU (m:cr):Prop:=m.kind=1\/m.kind=2\/m.kind=3
instance (m:cr):Decidable (isU m):=by unfold isU;infer_instance
def abW (f:StF) (m:cr):RcM:={ RcM.zero with kind:=4,index:=f.s.ack,secret:=m.secret,point:=m.hash }
def abY (f:StF) (u:aL):StF:=⟨f.s,f.o,f.p++[u],f.h⟩
def rcv (f:StF) (m:cr):StF:=if isU m then abY f (Bw m) else if m.kind=4 then yy f m.index m.hash else uQ f (abW f m)
def aay (f:StF) (q:List cr):StF:=q.foldl rcv f
theorem aaJ (f:StF) (m:cr) (q:List cr):aay f (m::q)=aay (rcv f m) q:=rfl
theorem aaP (f:StF) (q:List cr) (m:cr):aay f (q++[m])=rcv (aay f q) m:=by
 unfold aay
 rw[List.foldl_append]
 rfl
structure aaF (c d:CfM) (f:StF) (m:cr):Prop where
 ok:m.ok
 upd:isU m->vu f (Bw m)=0
 came:m.kind=4->(mU c f m).e=0
 rev:¬ isU m->m.kind≠4->(jR f m).2=0/\m=qC d f.s.ack
def aaG (c d:CfM):StF->List cr->Prop
 | _,[]=>True
 | f,m::q=>aaF c d f m/\aaG c d (rcv f m) q
theorem aaL {c d:CfM}:∀ {q:List cr}{f:StF}{m:cr},aaG c d f q->aaF c d (aay f q) m->aaG c d f (q++[m])
 | [],_,_,_,h2=>⟨h2,trivial⟩
 | _::_,_,_,h1,h2=>⟨h1.1,aaL h1.2 h2⟩
structure aaK (d:CfM) (f:StF):Prop where
 a:f.s.ptsA=pB d.seed f.s.ack
 b:f.s.ptsB=pB d.seed (f.s.ack+1)
 h:abz d.seed f.h f.s.ack.toNat
 failed:f.s.failed=0
 closed:f.s.closed=-1
theorem aaK.live {d:CfM}{f:StF}(h:aaK d f):uO f.s=false:=by
 unfold uO
 rw[h.failed,h.closed]
 rfl
theorem aa2 {d:CfM}{n:Int}(h0:0≤n) (h1:n≤281474976710653):qC d n={ cr.zero with kind:=5,index:=n,secret:=(jS d.seed n).1,hash:=pB d.seed (n+2) }:=by
 unfold qC
 rw[if_neg (by omega)]
 rfl
section
variable {c d:CfM}{f:StF}{m:cr}
theorem aaF.next (h:aaF c d f m) (I:iY f) (k:aaK d f):iY (rcv f m)/\aaK d (rcv f m):=by
 unfold rcv
 by_cases h1:isU m
 ·rw[if_pos h1]
  exact⟨(I.heard (vF h.ok) (h.upd h1)).1,⟨k.a,k.b,k.h,k.failed,k.closed⟩⟩
 ·rw[if_neg h1]
  by_cases h4:m.kind=4
  ·rw[if_pos h4]
   obtain⟨_,_,hs,_⟩:=I.came (c:=c) h.ok (h.came h4)
   exact⟨hs,⟨k.a,k.b,k.h,k.failed,k.closed⟩⟩
  ·rw[if_neg h4]
   obtain⟨hr,hm⟩:=h.rev h1 h4
   obtain⟨_,_,hs,_,_,_,hrem,_,_⟩:=I.y8 h.ok hr
   refine⟨hs,?_⟩
   have h0:=I.ack0
   have h9:=I.rem1
   by_cases hb:f.s.ack≤281474976710653
   ·obtain⟨x,hx⟩:∃ x,x=qC d f.s.ack:=⟨_,rfl⟩
    have he:=aa2 (d:=d) h0 hb
    rw[<- hx]at hm he
    have e1:m.secret=(jS d.seed f.s.ack).1:=by rw[hm,he]
    have e2:m.hash=pB d.seed (f.s.ack+2):=by rw[hm,he]
    obtain⟨n,hn⟩:∃ n:Nat,f.s.ack=(n:Int):=⟨f.s.ack.toNat,by omega⟩
    have hsh:=k.h
    rw[hn,Int.toNat_natCast]at hsh
    refine⟨k.b,?_,?_,k.failed,k.closed⟩
    ·show m.hash=pB d.seed (f.s.ack+1+1)
     rw[e2]
     congr 1
     omega
    ·show abz d.seed (tw f.h f.s.ack m.secret).1 (f.s.ack+1).toNat
     rw[e1,hn,show ((n:Int)+1).toNat=n+1 by omega]
     exact (aa9 hsh (by omega)).2
   ·exfalso
    have e:qC d f.s.ack=cr.zero:=by
     unfold qC
     rw[if_pos (by omega)]
    rw[e]at hm
    have hk:m.kind=5:=(I.y8 h.ok hr).2.2.2.2.1
    rw[hm]at hk
    cases hk
theorem aaI:∀ {q:List cr}{f:StF},aaG c d f q->iY f->aaK d f->iY (aay f q)/\aaK d (aay f q)
 | [],_,_,I,k=>⟨I,k⟩
 | _::_,_,h,I,k=>by
  obtain⟨I',k'⟩:=h.1.next I k
  have:=aaI h.2 I' k'
  exact this
structure aaZ (f g:StF):Prop where
 o:g.o=f.o
 side:g.s.side=f.s.side
 bo:g.s.bo=f.s.bo
 bp:g.s.bp=f.s.bp
 rem:g.s.rem=f.s.rem
 sgnA:g.s.sgnA=f.s.sgnA
 sgnB:g.s.sgnB=f.s.sgnB
 p:∃ Y,g.p=f.p++Y
 loc:f.s.loc≤g.s.loc
 at_:g.s.loc=f.s.loc->g.s.atA=f.s.atA/\g.s.atB=f.s.atB
 ack:f.s.ack≤g.s.ack
 held:g.s.ack=f.s.ack->g.s.heldA=f.s.heldA/\g.s.heldB=f.s.heldB
theorem aaZ.refl (f:StF):aaZ f f:=⟨rfl,rfl,rfl,rfl,rfl,rfl,rfl,⟨[],by simp⟩,Int.le_refl _,fun _=>⟨rfl,rfl⟩,Int.le_refl _,fun _=>⟨rfl,rfl⟩⟩
theorem aaZ.trans {f g e:StF}(h:aaZ f g) (k:aaZ g e):aaZ f e:=by
 obtain⟨Y,hY⟩:=h.p
 obtain⟨Z,hZ⟩:=k.p
 refine⟨k.o.trans h.o,k.side.trans h.side,k.bo.trans h.bo,k.bp.trans h.bp,k.rem.trans h.rem,k.sgnA.trans h.sgnA,k.sgnB.trans h.sgnB,⟨Y++Z,by rw[hZ,hY,List.append_assoc]⟩,Int.le_trans h.loc k.loc,fun e=>?_,Int.le_trans h.ack k.ack,fun e=>?_⟩
 ·have h1:=h.loc
  have h2:=k.loc
  have a:=h.at_ (by omega)
  have b:=k.at_ (by omega)
  exact⟨b.1.trans a.1,b.2.trans a.2⟩
 ·have h1:=h.ack
  have h2:=k.ack
  have a:=h.held (by omega)
  have b:=k.held (by omega)
  exact⟨b.1.trans a.1,b.2.trans a.2⟩
theorem aaF.abr (h:aaF c d f m) (I:iY f):aaZ f (rcv f m):=by
 unfold rcv
 by_cases h1:isU m
 ·rw[if_pos h1]
  exact⟨rfl,rfl,rfl,rfl,rfl,rfl,rfl,⟨_,rfl⟩,Int.le_refl _,fun _=>⟨rfl,rfl⟩,Int.le_refl _,fun _=>⟨rfl,rfl⟩⟩
 ·rw[if_neg h1]
  by_cases h4:m.kind=4
  ·rw[if_pos h4]
   obtain⟨_,_,_,_,_,hi⟩:=I.came (c:=c) h.ok (h.came h4)
   refine⟨rfl,rfl,rfl,rfl,rfl,rfl,rfl,⟨[],(List.append_nil _).symm⟩,?_,fun e=>?_,Int.le_refl _,fun _=>⟨rfl,rfl⟩⟩
   ·show f.s.loc≤m.index;omega
   ·have e:m.index=f.s.loc:=e
    omega
  ·rw[if_neg h4]
   refine⟨rfl,rfl,rfl,rfl,rfl,rfl,rfl,⟨[],(List.append_nil _).symm⟩,Int.le_refl _,fun _=>⟨rfl,rfl⟩,?_,fun e=>?_⟩
   ·show f.s.ack≤f.s.ack+1;omega
   ·have e:f.s.ack+1=f.s.ack:=e
    omega
theorem aaA:∀ {q:List cr}{f:StF},aaG c d f q->iY f->aaK d f->aaZ f (aay f q)
 | [],f,_,_,_=>aaZ.refl f
 | _::_,_,h,I,k=>by
  obtain⟨I',k'⟩:=h.1.next I k
  have:=aaA h.2 I' k'
  exact (h.1.abr I).trans this
theorem abt {w:aL}{ca cb:Int}(h:ca≤(f.o.length:Nat)):mN f.s.bo f.s.bp (f.o++[w]) f.p ca cb=mN f.s.bo f.s.bp f.o f.p ca cb\/ca<0:=by
 by_cases h0:ca<0
 ·exact .inr h0
 refine .inl ?_
 have e:inC ca cb (f.o++[w]) f.p ↔ inC ca cb f.o f.p:=by
  unfold inC
  rw[List.length_append,List.length_singleton]
  constructor
  ·rintro⟨a,b,c⟩;exact⟨a,h,c⟩
  ·rintro⟨a,b,c⟩;exact⟨a,by omega,c⟩
 unfold mN
 rw[nu f.o w (by omega)]
 by_cases hi:inC ca cb f.o f.p/\amt f.s.bo/\amt f.s.bp/\amt (f.s.bo+f.s.bp)
 ·rw[if_pos hi,if_pos ⟨e.2 hi.1,hi.2⟩]
 ·rw[if_neg hi,if_neg fun hh=>hi ⟨e.1 hh.1,hh.2⟩]
theorem abq {base:Int}{mine others Y:List aL}{fm a b:Nat}(v0:∀ u∈mine,dp u=true) (v1:∀ u∈others++Y,dp u=true) (hab:a≤b) (hb:b≤others.length):SB base mine others fm a≤SB base mine (others++Y) fm b:=by
 unfold SB
 rw[List.take_append_of_le_length hb,oq]
 have h1:=Gz (f:=kD (mine.take fm)) (l:=Y) fun u hu=>ra (v1 u (by simp[hu]))
 have h2:gG (stays (others.take b)) mine≤gG (stays (others.take a)) mine:=by
  refine tS (fun u hu=>ra (v0 u hu)) fun u hu h=>?_
  unfold stays at h ⊢
  simp only[Bool.and_eq_true,decide_eq_true_eq,Bool.not_eq_true',decide_eq_false_iff_not]at h ⊢
  refine⟨h.1,fun h3=>h.2 ?_⟩
  rw[pP hab (by rw[h3];decide)]
  exact h3
 omega
theorem abh {u w:aL}(I:iY f) (J:iY (q6 f w)) (h:vu f u=0):vu (q6 f w) u=0:=by
 have hA:f.s.atA.toNat≤f.o.length:=toNat_le (by have:=I.a1;have:=I.a2;have:=I.a3;omega)
 have e1:(f.o++[w]).take f.s.atA.toNat=f.o.take f.s.atA.toNat:=nu f.o w hA
 unfold vu at h ⊢
 split at h
 ·cases h
 rename_i h1
 rw[if_neg (show ¬ uO (q6 f w).s=true from h1)]
 split at h
 ·cases h
 rename_i h2
 rw[if_neg (show ¬ 512≤IntKind.i64.wrap (((q6 f w).p.length:Int)-(q6 f w).s.atB) from h2)]
 split at h
 ·cases h
 rename_i h3
 have h3:kJ f.p f.o u=0:=Classical.byContradiction h3
 rw[if_neg (show ¬ kJ (q6 f w).p (q6 f w).o u≠0 from fun hh=>hh (vn h3)),J.fA]
 rw[I.fA]at h
 have e2:cw (q6 f w).o (q6 f w).s.atA=cw f.o f.s.atA:=e1
 by_cases hk:u.kind=1
 ·rw[if_pos hk]at h ⊢
  have e3:kX (q6 f w).p (q6 f w).o (q6 f w).s.atA=kX f.p f.o f.s.atA:=by unfold kX;rw[e2];rfl
  rw[e3]
  split at h
  ·cases h
  rename_i h4
  rw[if_neg h4]
  split at h
  ·cases h
  rename_i h5
  rw[I.xk.1]at h5
  rw[J.xk.1]
  have hg:=abq (base:=f.s.bp) (mine:=f.p) (others:=f.o) (Y:=[w]) (fm:=f.s.heldB.toNat) (a:=f.s.atA.toNat) (b:=f.s.atA.toNat) I.vp J.vo (Nat.le_refl _) hA
  rw[if_neg]
  show ¬ SB f.s.bp f.p (f.o++[w]) f.s.heldB.toNat f.s.atA.toNat<u.amount
  omega
 ·rw[if_neg hk]at h ⊢
  rw[e2]
  exact h
theorem abC {w:aL}{n ca cb:Int}(h0:0≤ca) (h:ca≤(f.o.length:Nat)):yV c (q6 f w) n ca cb=yV c f n ca cb:=by
 have e:kx (q6 f w) ca cb=kx f ca cb:=(abt (w:=w) (cb:=cb) h).resolve_right (by omega)
 unfold yV
 rw[e]
 rfl
theorem abv {w:aL}(I:iY f):mU c (q6 f w) m=mU c f m:=by
 have e:=abC (c:=c) (w:=w) (n:=m.index) (cb:=(f.p.length:Nat)) (f:=f) (ca:=f.s.heldA) (by have:=I.a0;have:=I.a1;omega) (by have:=I.a2;have:=I.a3;omega)
 unfold mU
 rw[show yV c (q6 f w) m.index (q6 f w).s.heldA ((q6 f w).p.length:Nat)=yV c f m.index f.s.heldA (f.p.length:Nat) from e]
 rfl
theorem aaW {w:aL}:rcv (q6 f w) m=q6 (rcv f m) w:=by
 unfold rcv
 by_cases h1:isU m
 ·rw[if_pos h1,if_pos h1];rfl
 ·rw[if_neg h1,if_neg h1]
  by_cases h4:m.kind=4
  ·rw[if_pos h4,if_pos h4];rfl
  ·rw[if_neg h4,if_neg h4];rfl
theorem aaT {w:aL}:∀ {q:List cr}{f:StF},aaG c d f q->iY f->iY (q6 f w)->aaK d f->aaG c d (q6 f w) q/\aay (q6 f w) q=q6 (aay f q) w/\iY (q6 (aay f q) w)
 | [],_,_,_,J,_=>⟨trivial,rfl,J⟩
 | m::q,f,h,I,J,k=>by
  obtain⟨I',k'⟩:=h.1.next I k
  have ht:aaF c d (q6 f w) m:=by
   refine⟨h.1.ok,fun hu=>abh I J (h.1.upd hu),fun h4=>?_,h.1.rev⟩
   rw[abv I]
   exact h.1.came h4
  have J':=(ht.next J ⟨k.a,k.b,k.h,k.failed,k.closed⟩).1
  rw[aaW]at J'
  obtain⟨a,b,e⟩:=aaT h.2 I' J' k'
  exact⟨⟨ht,by rw[aaW];exact a⟩,by rw[aaJ,aaW];exact b,e⟩
def aaV (f:StF) (b:Bool):StF:=⟨{ f.s with behind:=b },f.o,f.p,f.h⟩
theorem abK {r:RcM}{b:Bool}:mU c (aaV (yG f r) b) m=mU c f m:=by
 unfold mU
 rw[show yV c (aaV (yG f r) b) m.index (aaV (yG f r) b).s.heldA ((aaV (yG f r) b).p.length:Nat)=yV c f m.index f.s.heldA (f.p.length:Nat) from rfl]
 rfl
theorem aa1 {r:RcM}:∀ {q:List cr}{f:StF}(b:Bool),aaG c d f q->iY f->aaK d f->(aay f q).s.ack=f.s.ack->aaG c d (aaV (yG f r) b) q/\∃ b',aay (aaV (yG f r) b) q=aaV (yG (aay f q) r) b'
 | [],_,b,_,_,_,_=>⟨trivial,b,rfl⟩
 | m::q,f,b,h,I,k,he=>by
  obtain⟨I',k'⟩:=h.1.next I k
  have o1:=h.1.abr I
  have o2:=aaA h.2 I' k'
  have e1:(rcv f m).s.ack=f.s.ack:=by
   have a:=o1.ack
   have b:=o2.ack
   rw[aaJ]at he
   omega
  have hn:isU m\/m.kind=4:=by
   refine Classical.byContradiction fun hh=>?_
   have h1:¬ isU m:=fun x=>hh (.inl x)
   have h4:m.kind≠4:=fun x=>hh (.inr x)
   unfold rcv at e1
   rw[if_neg h1,if_neg h4]at e1
   have e1:f.s.ack+1=f.s.ack:=e1
   omega
  obtain⟨b',er⟩:∃ b',rcv (aaV (yG f r) b) m=aaV (yG (rcv f m) r) b':=by
   unfold rcv
   by_cases h1:isU m
   ·rw[if_pos h1,if_pos h1];exact⟨b,rfl⟩
   ·rw[if_neg h1,if_neg h1,if_pos (hn.resolve_left h1),if_pos (hn.resolve_left h1)];exact⟨false,rfl⟩
  have ht:aaF c d (aaV (yG f r) b) m:=by
   refine⟨h.1.ok,fun hu=>h.1.upd hu,fun h4=>?_,fun h1 h4=>absurd hn (fun x=>x.elim h1 h4)⟩
   rw[abK]
   exact h.1.came h4
  obtain⟨a,z,e⟩:=aa1 (r:=r) b' h.2 I' k' (by rw[aaJ]at he;omega)
  exact⟨⟨ht,by rw[er];exact a⟩,z,by rw[aaJ,er];exact e⟩
end
end Go.Esc.M
namespace Go.Esc.M
open Go Go.Esc
structure Sync (f g:StF):Prop where
 p:f.p=g.o
 loc:f.s.loc=g.s.rem
 atA:f.s.atA=g.s.sgnB
 atB:f.s.atB=g.s.sgnA
 ack:f.s.ack=g.s.loc
 heldA:f.s.heldA=g.s.atB
 heldB:f.s.heldB=g.s.atA
structure ab3 (c d:CfM) (f g:StF) (q:List cr):Prop where
 takes:aaG c d f q
 sync:Sync (aay f q) g
structure Ends (c d:CfM) (f g:StF):Prop where
 key:c.pkey=d.key
 seed:d.seed.length=32
 side:f.s.side=1-g.s.side
 bo:f.s.bo=g.s.bp
 bp:f.s.bp=g.s.bo
theorem abd {rm:Bool}{id:Int}{l Y:List aL}{a b:Int}(ha:0≤a) (hab:a≤b) (hb:b≤(l.length:Nat)) (h:(ey rm id (cw l a)).isSome=true):ey rm id (cw (l++Y) b)=ey rm id (cw l a):=by
 unfold cw at h ⊢
 rw[List.take_append_of_le_length (by omega),<- rV (show a.toNat≤b.toNat by omega)]
 exact yu h
section
variable {c d:CfM}{F G f g:StF}{Y:List aL}
theorem abF {u:aL}(I:iY F) (J:iY g) (S:Sync F g) (hk:uO F.s=false) (hbp:F.s.bp=g.s.bo) (hY:F.o=g.p++Y) (hfull:yr g=false) (hn:kJ g.o g.p u=0)
  (ha:u.kind=1->kX g.o g.p g.s.heldB<483/\u.amount≤SB g.s.bo g.o g.p g.s.atA.toNat g.s.heldB.toNat)
  (hr:u.kind≠1->(ey false u.id (cw g.p g.s.heldB)).isSome=true/\(u.kind=2->sha u.hash=((ey false u.id (cw g.p g.s.heldB)).getD aL.zero).hash)):vu F u=0:=by
 have a0:=J.a0
 have a1:=J.a1
 have a2:=J.a2
 have a3:=J.a3
 have b0:=J.b0
 have b1:=J.b1
 have b2:=J.b2
 have b3:=J.b3
 have hlo:=J.lo
 unfold vu
 rw[if_neg (by rw[hk];decide),S.p,S.atB,if_neg]
 rotate_left
 ·intro hh
  have hh2:¬ 512≤IntKind.i64.wrap ((g.o.length:Int)-g.s.heldA):=by
   unfold yr at hfull
   simp only[Bool.or_eq_false_iff,decide_eq_false_iff_not]at hfull
   exact hfull.2
  rw[i64_in (by omega) (by omega)]at hh hh2
  omega
 rw[hY,if_neg (fun hh=>hh (vn hn)),I.fA,S.atA]
 by_cases h1:u.kind=1
 ·rw[if_pos h1]
  obtain⟨h2,h3⟩:=ha h1
  have e:kX g.o (g.p++Y) g.s.sgnB=kX g.o g.p g.s.sgnB:=by
   unfold kX cw
   rw[List.take_append_of_le_length (by omega)]
  rw[e,if_neg (by have:=Ab (o:=g.o) (p:=g.p) b0 b1;omega),I.xk.1,hbp,S.p,S.heldB,S.atA,hY,if_neg]
  have:=abq (base:=g.s.bo) (mine:=g.o) (others:=g.p) (Y:=Y) (fm:=g.s.atA.toNat) (a:=g.s.heldB.toNat) (b:=g.s.sgnB.toNat) J.vo (by rw[<- hY];exact I.vo) (by omega) (by omega)
  omega
 ·rw[if_neg h1]
  obtain⟨h2,h3⟩:=hr h1
  have e:=abd (Y:=Y) b0 b1 (show g.s.sgnB≤(g.p.length:Nat) by omega) h2
  rw[e,if_neg (by rw[h2];decide),if_neg fun hh=>hh.2 (h3 hh.1)]
theorem abS (I:iY F) (J:iY g) (S:Sync F g) (E:Ends c d F g) (K:aaK c g) (hk:uO F.s=false) (hY:F.o=g.p++Y) (hseed:c.seed.length=32) (h0:(p6 g).2=0) :
  (mU c F (tI d (yG g (p6 g).1))).e=0/\(tI d (yG g (p6 g).1)).kind=4/\(tI d (yG g (p6 g).1)).index=g.s.rem+1:=by
 obtain⟨e,hr,hs,_,hra⟩:=J.sign h0
 have h1:¬ ((g.o.length:Int)=g.s.sgnA/\g.s.atB=g.s.sgnB)/\g.s.rem≤281474976710653:=by
  unfold p6 at h0
  split at h0
  ·cases h0
  split at h0
  ·cases h0
  rename_i h2
  split at h0
  ·cases h0
  rename_i h3
  exact⟨fun h=>h2 (.inr h),by omega⟩
 obtain⟨h1,h2⟩:=h1
 rw[e]
 refine⟨?_,rfl,rfl⟩
 have a0:=J.a0
 have a1:=J.a1
 have a2:=J.a2
 have a3:=J.a3
 have b0:=J.b0
 have b1:=J.b1
 have b2:=J.b2
 have b3:=J.b3
 have k0:=J.ack0
 have hside:=J.side
 obtain⟨m1,m2,m3⟩:=J.stands (n:=g.o.length) (m:=g.s.atB.toNat) (by omega) (Nat.le_refl _) (by omega) (by omega)
 rw[Int.toNat_of_nonneg (show 0≤g.s.atB by omega)]at m1
 have hl:F.p.length=g.o.length:=by rw[S.p]
 have ho:F.o.length=g.p.length+Y.length:=by rw[hY,List.length_append]
 obtain⟨n1,n2,n3⟩:=I.stands (n:=F.s.heldA.toNat) (m:=F.p.length) (by have:=I.a1;omega) (by rw[S.heldA];omega) (by have:=I.b1;have:=I.b2;have:=I.b3;omega) (Nat.le_refl _)
 rw[Int.toNat_of_nonneg (show 0≤F.s.heldA by have:=I.a0;have:=I.a1;omega)]at n1
 have ev:foldM F.s.bo F.s.bp (F.o.take F.s.heldA.toNat) (F.p.take F.p.length)=foldM g.s.bp g.s.bo (g.p.take g.s.atB.toNat) (g.o.take g.o.length):=by
  rw[E.bo,E.bp,S.heldA,S.p,hY,List.take_append_of_le_length (by omega)]
 have ht:=abj g.s.bo g.s.bp (g.o.take g.o.length) (g.p.take g.s.atB.toNat)
 obtain⟨M,hM⟩:∃ M,M=foldM g.s.bo g.s.bp (g.o.take g.o.length) (g.p.take g.s.atB.toNat):=⟨_,rfl⟩
 rw[ev]at n1 n2 n3
 obtain⟨N,hN⟩:∃ N,N=foldM g.s.bp g.s.bo (g.p.take g.s.atB.toNat) (g.o.take g.o.length):=⟨_,rfl⟩
 rw[<- hN]at n1 n2 n3 ht
 rw[<- hM]at m1 ht
 obtain⟨_,t1,t2,t3⟩:=ht
 obtain⟨g',hg'⟩:∃ g',g'=yG g ({ RcM.zero with kind:=2,index:=g.s.rem+1,cntA:=(g.o.length:Nat),cntB:=g.s.atB }):=⟨_,rfl⟩
 obtain⟨pt,hpt⟩:∃ pt,pt=pB c.seed (g.s.ack+1):=⟨_,rfl⟩
 have hag:tI d (yG g ({ RcM.zero with kind:=2,index:=g.s.rem+1,cntA:=(g.o.length:Nat),cntB:=g.s.atB }))={ cr.zero with kind:=4,index:=g.s.rem+1,hash:=mac d.key (oI F.s.side (g.s.rem+1) pt N.o N.q N.l).1 }:=by
  have f1:kx (yG g { RcM.zero with kind:=2,index:=g.s.rem+1,cntA:=(g.o.length:Nat),cntB:=g.s.atB }) (g.o.length:Nat) g.s.atB=M:=m1
  have f2:IntKind.i64.wrap (1-g.s.side)=F.s.side:=by
   rw[i64_in (by omega) (by omega),E.side]
  have f3:(if g.s.rem+1≠g.s.ack then g.s.ptsB else g.s.ptsA)=pt:=by
   rw[if_pos (by omega),K.b,hpt]
  show ({ cr.zero with kind:=4,index:=g.s.rem+1,hash:=mac d.key (oI (IntKind.i64.wrap (1-g.s.side)) (g.s.rem+1) (if g.s.rem+1≠g.s.ack then g.s.ptsB else g.s.ptsA) (kx (yG g { RcM.zero with kind:=2,index:=g.s.rem+1,cntA:=(g.o.length:Nat),cntB:=g.s.atB }) (g.o.length:Nat) g.s.atB).q (kx (yG g { RcM.zero with kind:=2,index:=g.s.rem+1,cntA:=(g.o.length:Nat),cntB:=g.s.atB }) (g.o.length:Nat) g.s.atB).o (pE (kx (yG g { RcM.zero with kind:=2,index:=g.s.rem+1,cntA:=(g.o.length:Nat),cntB:=g.s.atB }) (g.o.length:Nat) g.s.atB).l)).1 }:cr)=_
  rw[f1,f2,f3,t1,t2,t3]
 rw[hag]
 have hok:okN (g.s.rem+1)=true:=GJ.2 ⟨by omega,by omega⟩
 obtain⟨sec,hsec⟩:∃ sec,sec=jS c.seed (g.s.rem+1):=⟨_,rfl⟩
 have hs2:sec.2=0:=by
  rw[hsec]
  unfold jS
  rw[hok,cond_true]
 have hpt2:pt=sha sec.1:=by
  rw[hpt,hsec,show g.s.ack+1=g.s.rem+1 by omega]
  rfl
 have hown:yV c F (g.s.rem+1) F.s.heldA (F.p.length:Nat)=((oI F.s.side (g.s.rem+1) pt N.o N.q N.l).1,decide ((oI F.s.side (g.s.rem+1) pt N.o N.q N.l).2=0)):=by
  unfold yV
  rw[<- hsec,if_neg (fun h=>h hs2),n1,if_neg (fun h=>h n2),<- hpt2]
 have htx:(oI F.s.side (g.s.rem+1) pt N.o N.q N.l).2=0:=by
  unfold oI
  rw[if_neg,n3,cond_true]
  unfold qZ vZ
  rw[E.side]
  omega
 have hpl:(F.p.length:Int)=(g.o.length:Int):=by rw[hl]
 unfold mU
 rw[if_neg (by rw[hk];decide),if_neg (fun h=>h rfl)]
 rw[if_neg]
 rotate_left
 ·show ¬ (281474976710653<F.s.loc\/g.s.rem+1≠F.s.loc+1)
  rw[S.loc]
  omega
 rw[if_neg (by rw[S.heldA,S.atA,S.atB,hpl];exact fun h=>h1 ⟨h.2,h.1⟩)]
 show (if (yV c F (g.s.rem+1) F.s.heldA (F.p.length:Nat)).2=false\/mac c.pkey (yV c F (g.s.rem+1) F.s.heldA (F.p.length:Nat)).1≠mac d.key (oI F.s.side (g.s.rem+1) pt N.o N.q N.l).1 then noC 110 else _).e=0
 rw[hown,if_neg]
 rintro (h|h)
 ·have h:decide ((oI F.s.side (g.s.rem+1) pt N.o N.q N.l).2=0)=false:=h
  rw[htx]at h
  cases h
 ·exact h (by rw[E.key])
theorem abV {n:Int}(I:iY F) (K:aaK d F) (hn:F.s.ack=n) (h0:0≤n) (h1:n≤281474976710653) (hr:F.s.rem=n+1) (hd:d.seed.length=32):(qC d n).kind=5/\(qC d n).ok/\(jR F (qC d n)).2=0:=by
 obtain⟨m,hm⟩:∃ m,m=qC d n:=⟨_,rfl⟩
 have he:=aa2 (d:=d) h0 h1
 rw[<- hm]at he ⊢
 have e1:m.kind=5:=by rw[he]
 have e2:m.index=n:=by rw[he]
 have e3:m.secret=(jS d.seed n).1:=by rw[he]
 have e4:m.hash=pB d.seed (n+2):=by rw[he]
 have hsl:=mZ hd n
 refine⟨e1,?_,?_⟩
 ·refine⟨?_,?_,?_,?_,?_,?_,?_,?_⟩
  ·rw[e1];exact iu 5 (by decide) (by decide)
  ·rw[he];exact cL
  ·rw[he];exact cL
  ·rw[e2];exact iu n (by omega) (by omega)
  ·rw[he];exact cL
  ·rw[e4];exact mK _ _
  ·rw[e3];exact hsl
  ·rw[he];simp[cr.zero]
 obtain⟨sec,hsec⟩:∃ sec,sec=(jS d.seed n).1:=⟨_,rfl⟩
 have hpt:F.s.ptsA=sha sec:=by rw[K.a,hn,hsec];rfl
 obtain⟨k,hk⟩:∃ k:Nat,n=(k:Int):=⟨n.toNat,by omega⟩
 have hsh:=K.h
 rw[hn,hk,Int.toNat_natCast]at hsh
 have hput:=(aa9 hsh (by omega)).1
 rw[<- hk,<- hsec]at hput
 rw[<- hsec]at e3
 unfold jR
 rw[if_neg (by rw[K.live];decide),if_neg (fun h=>h e1)]
 rw[if_neg]
 rotate_left
 ·rw[i64_in (by omega) (by omega)]
  omega
 rw[e3,hpt,if_neg (fun h=>h rfl),hn,hput,if_neg (fun h=>h rfl)]
end
end Go.Esc.M
namespace Go.Esc.M
open Go Go.Esc
structure aaB (c d:CfM) (f g:StF) (q r:List cr):Prop where
 I:iY f
 J:iY g
 K:aaK d f
 H:aaK c g
 E:Ends c d f g
 D:Ends d c g f
 L:ab3 c d f g q
 M:ab3 d c g f r
theorem aaB.swap {c d:CfM}{f g:StF}{q r:List cr}(h:aaB c d f g q r):aaB d c g f r q:=⟨h.J,h.I,h.H,h.K,h.D,h.E,h.M,h.L⟩
theorem Ends.abr {c d:CfM}{f g F:StF}(h:Ends c d f g) (o:aaZ f F):Ends c d F g:=⟨h.key,h.seed,o.side.trans h.side,o.bo.trans h.bo,o.bp.trans h.bp⟩
theorem Ends.ab0 {c d:CfM}{f g F:StF}(h:Ends d c g f) (o:aaZ f F):Ends d c g F:=⟨h.key,h.seed,by rw[o.side];exact h.side,by rw[o.bp];exact h.bo,by rw[o.bo];exact h.bp⟩
def abg (c:CfM) (f:StF) (m:cr):List cr:=if isU m then [] else if m.kind=4 then [qC c f.s.loc] else []
section
variable {c d:CfM}{f g:StF}{q r:List cr}{m:cr}
theorem aaB.ahead (h:aaB c d f g q r):∃ Y,(aay g r).o=f.p++Y:=by
 have o1:=aaA h.L.takes h.I h.K
 have o2:=aaA h.M.takes h.J h.H
 obtain⟨Y,hY⟩:=o1.p
 exact⟨Y,by rw[o2.o,<- h.L.sync.p,hY]⟩
theorem aaB.comes (h:aaB c d f g (m::q) r):aaF c d f m/\aaB c d (rcv f m) g q (r++abg c f m):=by
 obtain⟨ht,hq⟩:=h.L.takes
 obtain⟨I',K'⟩:=ht.next h.I h.K
 have o1:=ht.abr h.I
 have S:=h.M.sync
 refine⟨ht,⟨I',h.J,K',h.H,h.E.abr o1,h.D.ab0 o1,⟨hq,h.L.sync⟩,?_⟩⟩
 unfold abg
 by_cases h1:isU m
 ·have e:rcv f m=abY f (Bw m):=by unfold rcv;rw[if_pos h1]
  rw[if_pos h1,List.append_nil,e]
  exact⟨h.M.takes,⟨S.p,S.loc,S.atA,S.atB,S.ack,S.heldA,S.heldB⟩⟩
 rw[if_neg h1]
 by_cases h4:m.kind=4
 ·have e:rcv f m=yy f m.index m.hash:=by unfold rcv;rw[if_neg h1,if_pos h4]
  rw[if_pos h4]
  have o3:=aaA hq I' K'
  have S2:=h.L.sync
  rw[aaJ]at S2
  obtain⟨_,_,_,_,_,hix⟩:=h.I.came (c:=c) ht.ok (ht.came h4)
  rw[e]at I' o3 S2 ⊢
  obtain⟨aao,KG⟩:=aaI h.M.takes h.J h.H
  have aaj:=aaA h.M.takes h.J h.H
  obtain⟨F,hF⟩:∃ F,F=aay (yy f m.index m.hash) q:=⟨_,rfl⟩
  obtain⟨G,hG⟩:∃ G,G=aay g r:=⟨_,rfl⟩
  rw[<- hF]at o3 S2
  rw[<- hG]at aao KG aaj S
  have l0:=h.I.loc0
  have l1:=I'.loc1
  have l1:m.index≤281474976710654:=l1
  have x1:=o3.loc
  have x1:m.index≤F.s.loc:=x1
  have x2:=S2.loc
  have x3:=aaj.rem
  have x4:=aao.rem
  have x5:=S.ack
  have hsame:=o3.at_ (show F.s.loc=m.index by omega)
  have y1:F.s.atA=f.s.heldA:=hsame.1
  have y2:F.s.atB=(f.p.length:Nat):=hsame.2
  have z1:=S2.atA
  have z2:=S2.atB
  have w1:=aaj.sgnA
  have w2:=aaj.sgnB
  obtain⟨k5,aac,kr⟩:=abV (d:=c) (n:=f.s.loc) aao KG x5 l0 (by omega) (by omega) h.D.seed
  obtain⟨aae,hmr⟩:∃ aae,aae=qC c f.s.loc:=⟨_,rfl⟩
  have hmr2:aae=qC c G.s.ack:=by rw[x5];exact hmr
  rw[<- hmr]at k5 aac kr ⊢
  have n1:¬ isU aae:=by unfold isU;omega
  have tk:aaF d c G aae:=⟨aac,fun hh=>absurd hh n1,fun hh=>by omega,fun _ _=>⟨kr,hmr2⟩⟩
  have er:rcv G aae=uQ G (abW G aae):=by unfold rcv;rw[if_neg n1,if_neg (by omega)]
  refine⟨aaL h.M.takes (by rw[<- hG];exact tk),?_⟩
  rw[aaP,<- hG,er]
  refine⟨S.p,S.loc,S.atA,S.atB,?_,?_,?_⟩
  ·show G.s.ack+1=m.index;omega
  ·show G.s.sgnA=(f.p.length:Nat);omega
  ·show G.s.sgnB=f.s.heldA;omega
 ·have e:rcv f m=uQ f (abW f m):=by unfold rcv;rw[if_neg h1,if_neg h4]
  rw[if_neg h4,List.append_nil,e]
  exact⟨h.M.takes,⟨S.p,S.loc,S.atA,S.atB,S.ack,S.heldA,S.heldB⟩⟩
theorem abc (I:iY f) {a:Int}{h:List UInt8}(h0:(n8 f a h).2=0):yr f=false/\kX f.o f.p f.s.heldB<483/\a≤SB f.s.bo f.o f.p f.s.atA.toNat f.s.heldB.toNat/\(n8 f a h).1=pe ⟨1,((j7 f.o:Nat):Int),a,h,[]⟩:=by
 unfold n8 at h0 ⊢
 split at h0
 ·cases h0
 rename_i h1
 rw[if_neg h1]
 split at h0
 ·cases h0
 rename_i h2
 rw[if_neg h2]
 split at h0
 ·cases h0
 rename_i h3
 rw[if_neg h3]
 split at h0
 ·cases h0
 rename_i h4
 rw[if_neg h4]
 split at h0
 ·cases h0
 rename_i h5
 rw[if_neg h5]
 rw[I.fB]at h4
 rw[I.xl.1]at h5
 exact⟨(Bool.not_eq_true _).mp h3,by omega,by omega,rfl⟩
theorem aa0 (I:iY f) {u:aL}(h0:(j4 f u).2=0):yr f=false/\(ey false u.id (cw f.p f.s.heldB)).isSome=true/\(u.kind=2->sha u.hash=((ey false u.id (cw f.p f.s.heldB)).getD aL.zero).hash):=by
 unfold j4 at h0
 split at h0
 ·cases h0
 split at h0
 ·cases h0
 rename_i h2
 split at h0
 ·cases h0
 rename_i h3
 have h2:tA f u=true:=(Bool.not_eq_false _).mp h2
 unfold tA at h2
 simp only[Bool.and_eq_true,Bool.not_eq_true',Bool.or_eq_true,decide_eq_true_eq,decide_eq_false_iff_not]at h2
 obtain⟨k1,k2,k3,k4⟩:=h2
 rw[I.fB]at k1 k3
 exact⟨(Bool.not_eq_true _).mp h3,k1,fun h=>k3.resolve_left fun hn=>hn h⟩
theorem aaB.abU (h:aaB c d f g q r) {u:aL}(hu:u.ok) (I':iY (q6 f u)) (hk:u.kind=1\/u.kind=2\/u.kind=3) (hfull:yr f=false) (hn:kJ f.o f.p u=0)
  (ha:u.kind=1->kX f.o f.p f.s.heldB<483/\u.amount≤SB f.s.bo f.o f.p f.s.atA.toNat f.s.heldB.toNat)
  (hr:u.kind≠1->(ey false u.id (cw f.p f.s.heldB)).isSome=true/\(u.kind=2->sha u.hash=((ey false u.id (cw f.p f.s.heldB)).getD aL.zero).hash)) :
  aaB c d (q6 f u) g q (r++[GL u]):=by
 have S:=h.M.sync
 have S2:=h.L.sync
 obtain⟨a,b,_⟩:=aaT (w:=u) h.L.takes h.I I' h.K
 obtain⟨aao,KG⟩:=aaI h.M.takes h.J h.H
 have aaj:=aaA h.M.takes h.J h.H
 obtain⟨Y,hY⟩:=h.ahead
 have hb:(aay g r).s.bp=f.s.bo:=by rw[aaj.bp,h.D.bp]
 have hh:=abF aao h.I S KG.live hb hY hfull hn ha hr
 have n1:isU (GL u):=hk
 have tk:aaF d c (aay g r) (GL u):=⟨vY hu,fun _=>hh,fun h4=>by have h4:u.kind=4:=h4;omega,fun h1=>absurd n1 h1⟩
 refine⟨I',h.J,⟨h.K.a,h.K.b,h.K.h,h.K.failed,h.K.closed⟩,h.H,⟨h.E.key,h.E.seed,h.E.side,h.E.bo,h.E.bp⟩,⟨h.D.key,h.D.seed,h.D.side,h.D.bo,h.D.bp⟩,⟨a,?_⟩,⟨aaL h.M.takes tk,?_⟩⟩
 ·rw[b]
  exact⟨S2.p,S2.loc,S2.atA,S2.atB,S2.ack,S2.heldA,S2.heldB⟩
 ·have e:rcv (aay g r) (GL u)=abY (aay g r) u:=by unfold rcv;rw[if_pos n1];rfl
  rw[aaP,e]
  refine⟨?_,S.loc,S.atA,S.atB,S.ack,S.heldA,S.heldB⟩
  show (aay g r).p++[u]=f.o++[u]
  rw[S.p]
theorem aaB.abZ (h:aaB c d f g q r) (hc:c.ok) (h0:(p6 f).2=0):aaB c d (yG f (p6 f).1) g q (r++[tI c (yG f (p6 f).1)]):=by
 have S:=h.M.sync
 have S2:=h.L.sync
 obtain⟨aan,aaq⟩:=aaI h.L.takes h.I h.K
 have aag:=aaA h.L.takes h.I h.K
 obtain⟨aao,KG⟩:=aaI h.M.takes h.J h.H
 have aaj:=aaA h.M.takes h.J h.H
 obtain⟨Y,hY⟩:=h.ahead
 obtain⟨k1,k2,k3⟩:=abS aao h.I S (h.D.abr aaj) h.K KG.live hY h.E.seed h0
 obtain⟨e,hr,hs,_,hra⟩:=h.I.sign h0
 have hok:(tI c (yG f (p6 f).1)).ok:=by
  have:=I0 (c:=c) (f:=f) (f':=yG f (p6 f).1) (r:=(p6 f).1) hc (by rw[e];exact hr) h.I.ok (by rw[e];exact hs.ok)
  unfold sL at this
  rw[if_neg (by rw[e];show ¬ (2:Int)=1;decide),if_pos (by rw[e])]at this
  exact this _ (by simp)
 have hack:(aay f q).s.ack=f.s.ack:=by
  have:=aag.ack
  have:=aag.rem
  have:=aan.rem
  omega
 obtain⟨a,z,b⟩:=aa1 (r:=(p6 f).1) true h.L.takes h.I h.K hack
 have hb:aaV (yG f (p6 f).1) true=yG f (p6 f).1:=rfl
 rw[hb]at a b
 obtain⟨m,hm⟩:∃ m,m=tI c (yG f (p6 f).1):=⟨_,rfl⟩
 rw[<- hm]at k1 k2 k3 hok ⊢
 have n1:¬ isU m:=by unfold isU;omega
 have tk:aaF d c (aay g r) m:=⟨hok,fun hh=>absurd hh n1,fun _=>k1,fun _ hh=>absurd k2 hh⟩
 have i1:(p6 f).1.index=f.s.rem+1:=by rw[e]
 have i2:(p6 f).1.cntA=(f.o.length:Nat):=by rw[e]
 have i3:(p6 f).1.cntB=f.s.atB:=by rw[e]
 refine⟨by rw[e];exact hs,h.J,⟨h.K.a,h.K.b,h.K.h,h.K.failed,h.K.closed⟩,h.H,⟨h.E.key,h.E.seed,h.E.side,h.E.bo,h.E.bp⟩,⟨h.D.key,h.D.seed,h.D.side,h.D.bo,h.D.bp⟩,⟨a,?_⟩,⟨aaL h.M.takes tk,?_⟩⟩
 ·rw[b]
  exact⟨S2.p,S2.loc,S2.atA,S2.atB,S2.ack,S2.heldA,S2.heldB⟩
 ·have er:rcv (aay g r) m=yy (aay g r) m.index m.hash:=by unfold rcv;rw[if_neg n1,if_pos k2]
  rw[aaP,er]
  refine⟨S.p,?_,?_,?_,S.ack,S.heldA,S.heldB⟩
  ·show m.index=(p6 f).1.index
   rw[k3,i1]
  ·show (aay g r).s.heldA=(p6 f).1.cntB
   rw[S.heldA,i3]
  ·show (((aay g r).p.length:Nat):Int)=(p6 f).1.cntA
   rw[S.p,i2]
theorem aaB.call (h:aaB c d f g q r) (hc:c.ok) {o:jj}(ho:o.ok) (h0:(lD f o).2=0):aaB c d (tF f o) g q (r++sL c f (tF f o) (lD f o).1):=by
 obtain⟨I',ha⟩:=h.I.tF ho h0
 have rem:∀ u:aL,u.ok->u.kind=2\/u.kind=3->lD f o=j4 f u->tF f o=q6 f (lD f o).1.upd->(dp u=true\/64<u.note.length\/u.id<0\/2048≤u.id)->aaB c d (tF f o) g q (r++sL c f (tF f o) (lD f o).1):=by
  intro u hu hk he hF hv
  rw[he]at h0
  obtain⟨f1,f2,f3⟩:=aa0 h.I h0
  obtain⟨e,hs,ha⟩:=h.I.y9 hu hv (by omega) h0
  rw[hF,he,e]
  have hsm:sL c f (q6 f (pe u).upd) (pe u)=[GL u]:=rfl
  show aaB c d (q6 f u) g q (r++sL c f (q6 f (pe u).upd) (pe u))
  rw[hsm]
  refine h.abU hu hs (.inr hk) f1 ?_ (fun hh=>by omega) fun _=>⟨f2,f3⟩
  rcases ha with ⟨_,hh,_⟩|⟨hh,_⟩|⟨hh,_⟩|⟨hh,_⟩
  ·exact hh
  ·cases hh
  ·cases hh
  ·cases hh
 by_cases h1:o.kind=1
 ·have he:lD f o=n8 f o.amount o.hash:=by unfold lD;rw[if_pos h1]
  have hF:tF f o=q6 f (lD f o).1.upd:=by unfold tF;rw[if_neg (by omega)]
  rw[he]at h0
  obtain⟨f1,f2,f3,f4⟩:=abc h.I h0
  obtain⟨u,e,hu,hk,hs,ha,_⟩:=h.I.offer ho.hash h0
  rw[hF,he,e]
  have eu:u=⟨1,((j7 f.o:Nat):Int),o.amount,o.hash,[]⟩:=by
   rw[e]at f4
   exact congrArg RcM.upd f4
  have hsm:sL c f (q6 f (pe u).upd) (pe u)=[GL u]:=rfl
  show aaB c d (q6 f u) g q (r++sL c f (q6 f (pe u).upd) (pe u))
  rw[hsm]
  refine h.abU hu hs (.inl hk) f1 ?_ (fun _=>⟨f2,by rw[eu];exact f3⟩) fun hh=>absurd hk hh
  rcases ha with ⟨_,hh,_⟩|⟨hh,_⟩|⟨hh,_⟩|⟨hh,_⟩
  ·exact hh
  ·cases hh
  ·cases hh
  ·cases hh
 by_cases h2:o.kind=2
 ·exact rem ⟨2,o.id,0,o.hash,[]⟩ (IB ho) (.inl rfl) (by unfold lD;rw[if_neg h1,if_pos h2]) (by unfold tF;rw[if_neg (by omega)]) (Gr _ _)
 by_cases h3:o.kind=3
 ·exact rem ⟨3,o.id,0,M.h0,o.note⟩ (Iy ho) (.inr rfl) (by unfold lD;rw[if_neg h1,if_neg h2,if_pos h3]) (by unfold tF;rw[if_neg (by omega)]) (Gq _ _)
 by_cases h4:o.kind=4
 ·have he:lD f o=p6 f:=by unfold lD;rw[if_neg h1,if_neg h2,if_neg h3,if_pos h4]
  have hF:tF f o=yG f (lD f o).1:=by unfold tF;rw[if_pos h4]
  rw[hF]
  rw[he]at h0 ⊢
  obtain⟨e,_⟩:=h.I.sign h0
  have hsm:sL c f (yG f (p6 f).1) (p6 f).1=[tI c (yG f (p6 f).1)]:=by
   unfold sL
   rw[if_neg (by rw[e];show ¬ (2:Int)=1;decide),if_pos (by rw[e])]
  rw[hsm]
  exact h.abZ hc h0
 ·exfalso
  unfold lD at h0
  rw[if_neg h1,if_neg h2,if_neg h3,if_neg h4]at h0
  cases h0
end
def aaO (t:me):Prop:=aaB (t.c false) (t.c true) (t.f false) (t.f true) (t.q false) (t.q true)
theorem aaO.at_ {t:me}(h:aaO t) (s:Bool):aaB (t.c s) (t.c (!s)) (t.f s) (t.f (!s)) (t.q s) (t.q (!s)):=by
 cases s
 ·exact h
 ·exact h.swap
theorem aaO.of {t:me}(s:Bool) (h:aaB (t.c s) (t.c (!s)) (t.f s) (t.f (!s)) (t.q s) (t.q (!s))):aaO t:=by
 cases s
 ·exact h
 ·exact h.swap
theorem aaY {t:me}{s:Bool}{r:RcM}{f':StF}(h:aaB (t.c s) (t.c (!s)) f' (t.f (!s)) (t.q s) (t.q (!s)++sL (t.c s) (t.f s) f' r)):aaO (uD t s r f'):=by
 refine aaO.of s ?_
 cases s
 ·exact h
 ·exact h
theorem aby {t:me}(h:aaO t) {n:Nat}(k:kK t n) {s:Bool}{o:jj}(ho:o.ok) (h0:(lD (t.f s) o).2=0):aaO (uD t s (lD (t.f s) o).1 (tF (t.f s) o)):=aaY ((h.at_ s).call (k.c s) ho h0)
theorem abk {t:me}(h:aaO t) {s:Bool}{m:cr}{q:List cr}(hq:t.q s=m::q):(sD (oW t s q) s m).2=true/\aaO (sD (oW t s q) s m).1/\aaF (t.c s) (t.c (!s)) (t.f s) m:=by
 have P:=h.at_ s
 rw[hq]at P
 obtain⟨ht,P'⟩:=P.comes
 have I:=P.I
 have ef:(oW t s q).f s=t.f s:=rfl
 have aaa:(oW t s q).c s=t.c s:=rfl
 have e1:(oW t s q).q s=q:=ox _ _ _
 have e2:(oW t s q).q (!s)=t.q (!s):=qF _ _ (by cases s<;>decide)
 unfold sD
 rw[ef,aaa]
 unfold rcv abg at P'
 by_cases h1:isU m
 ·rw[if_pos h1,if_pos h1,List.append_nil]at P'
  rw[if_pos (show m.kind=1\/m.kind=2\/m.kind=3 from h1),if_pos (ht.upd h1)]
  refine⟨rfl,aaO.of s ?_,ht⟩
  cases s
  ·exact P'
  ·exact P'
 rw[if_neg h1,if_neg h1]at P'
 rw[if_neg (show ¬ (m.kind=1\/m.kind=2\/m.kind=3) from h1)]
 by_cases h4:m.kind=4
 ·rw[if_pos h4,if_pos h4]at P'
  rw[if_pos (ht.came h4)]
  refine⟨rfl,aaY ?_,ht⟩
  rw[e1,e2]
  exact P'
 ·rw[if_neg h4,if_neg h4,List.append_nil]at P'
  obtain⟨hr,_⟩:=ht.rev h1 h4
  rw[if_neg (fun hh=>h4 (I.came (c:=t.c s) ht.ok hh).2.2.2.2.1),if_pos hr]
  obtain⟨e,_⟩:=I.y8 ht.ok hr
  refine⟨rfl,aaY ?_,ht⟩
  rw[e1,e2,e]
  show aaB _ _ _ _ _ (t.q (!s)++[])
  rw[List.append_nil]
  exact P'
theorem abL {d:DlM}(hd:d.ok) (hb:∀ s,¬ nF (AL d s)):aaO (Ig d):=by
 have aal:iY (tc (FW d)):=iY.start (Dd hd) (hb false)
 have aap:iY (tc (FV d)):=iY.start (Dc hd) (hb true)
 have e0:mm (FW d)=({ StM.zero with side:=0,cap:=d.cap,bo:=d.ours,bp:=d.cap-d.ours,ptsA:=pB d.seedsB 0,ptsB:=pB d.seedsB 1,closed:=-1 },0):=by
  unfold mm
  rw[if_neg (show ¬ nF (FW d) from hb false)]
  rfl
 have hw:IntKind.i64.wrap (d.cap-d.ours)=d.cap-d.ours:=by
  have h0:=hb false
  unfold nF at h0
  have h1:¬ right (FW d).cap=false:=fun hh=>h0 (.inr (.inr (.inr (.inl hh))))
  have h2:=lZ.1 (show right d.cap=true from (Bool.not_eq_false _).mp h1)
  have h3:¬ d.ours<0:=fun hh=>h0 (.inr (.inr (.inr (.inr (.inl hh)))))
  have h4:¬ d.cap<d.ours:=fun hh=>h0 (.inr (.inr (.inr (.inr (.inr hh)))))
  exact i64_in (by omega) (by omega)
 have e1:mm (FV d)=({ StM.zero with side:=1,cap:=d.cap,bo:=d.cap-d.ours,bp:=d.ours,ptsA:=pB d.seedsA 0,ptsB:=pB d.seedsA 1,closed:=-1 },0):=by
  unfold mm
  rw[if_neg (show ¬ nF (FV d) from hb true)]
  show (({ StM.zero with side:=1,cap:=d.cap,bo:=IntKind.i64.wrap (d.cap-d.ours),bp:=d.cap-IntKind.i64.wrap (d.cap-d.ours),ptsA:=pB d.seedsA 0,ptsB:=pB d.seedsA 1,closed:=-1 }:StM),(0:Int))=_
  rw[hw,show d.cap-(d.cap-d.ours)=d.ours by omega]
 show aaB (FW d) (FV d) (tc (FW d)) (tc (FV d)) [] []
 unfold tc at aal aap ⊢
 rw[e0]at aal
 rw[e1]at aap
 rw[e0,e1]
 exact⟨aal,aap,⟨rfl,rfl,aba _,rfl,rfl⟩,⟨rfl,rfl,aba _,rfl,rfl⟩,⟨rfl,hd.seedsB,rfl,rfl,rfl⟩,⟨rfl,hd.seedsA,rfl,rfl,rfl⟩,⟨trivial,⟨rfl,rfl,rfl,rfl,rfl,rfl,rfl⟩⟩,⟨trivial,⟨rfl,rfl,rfl,rfl,rfl,rfl,rfl⟩⟩⟩
end Go.Esc.M
namespace Go.Esc.M
open Go Go.Esc
section
variable {F0:List AId}{G0 G:ak}{ps:List LP}{Q:ah->ak->Prop}{tb:AId}{t:me}{l:Bool->Ls}{w:Bool->ah}
theorem aar.use {F:List AId}{n:Nat}{s:Bool}{r:RcM}{lu:List aL}{v:ah}{f':StF}(h:(jP tb t).p G F) (k:kK t n) (hn:n≤99999999) (hr:r.ok) (hv:bw v) (hl:ff 36 G v (lu.map aL.av)) (okl:∀ u∈lu,u.ok) (hll:lu.length≤4096)
  (ap:Bb (t.f s) r lu f') (I:iY f') (hQ:∀ F' G',(jP tb (uD t s r f')).p G' F'->Ch F G F' G'->Q (.bool true) G') :
  al P aar.n [.ptr tb [] 0,.int .i64 (bI s),r.av v] G Q:=by
 refine aar.sound ?_
 unfold aar.S
 obtain⟨l,w,a⟩:=jP.at_ h
 have J:=k.f s
 have hlo:=J.lo
 have hlp:=J.lp
 intro i1 f1
 have s1:=(Sp.nil G).row f1 (r.av v)
 refine ae jm ?_
 refine ae qO ?_
 refine ae (qM s) ?_
 refine ae ((a.mv s1.ch).ldS k s) ?_
 refine ae (Rc.ld (au.own (i:=0) s1 rfl) hr hv) ?_
 refine dX.use ((a.mv s1.ch).IV k s) hr hv (hl.ch' s1.ch) okl hll (by omega) (by omega) J.lh ap fun wo wp wh G9 t9=>?_
 have s9:Sp [] G [bm 34 wh (f'.h.map b6.av),bm 36 wp (f'.p.map aL.av),bm 36 wo (f'.o.map aL.av),au i1 (r.av v)] G9:=u9 s1 t9
 have lx:Ls.lv ⟨wo,wp,wh⟩:=⟨(bm.own (i:=2) s9 rfl).leaf,(bm.own (i:=1) s9 rfl).leaf,(bm.own (i:=0) s9 rfl).leaf⟩
 refine ae (tv0 _ _) ?_
 refine ae (tv1 _ _) ?_
 refine St.nw s9 I.ok lx fun i12 G14 s14=>?_
 have s14:Sp [] G [au i12 (f'.s.av wo wp wh),bm 34 wh (f'.h.map b6.av),bm 36 wp (f'.p.map aL.av),bm 36 wo (f'.o.map aL.av),au i1 (r.av v)] G14:=s14
 rw[dx,aa,Bool.not_true,aK]
 refine ae jm ?_
 refine ae qO ?_
 refine ae (qM s) ?_
 refine ae (Kh s) ?_
 refine ae ((a.mv s14.ch).Mo k s) ?_
 refine ae (St.ld (au.own (i:=0) s14 rfl) I.ok lx) ?_
 refine ae jm ?_
 refine ae qO ?_
 refine ae (qM s) ?_
 obtain⟨l',w',S14⟩:=Sp.BS (Sp.with h s14)
 refine DS k S14 s I.ok (x:=⟨wo,wp,wh⟩) lx fun G25 s25=>?_
 have hS:ka G25 f' wo wp wh:=by
  have b1:=bm.own (i:=12) s25 rfl
  have b2:=bm.own (i:=11) s25 rfl
  have b3:=bm.own (i:=10) s25 rfl
  have:=I.lo
  have:=I.lp
  have:=I.lh
  exact⟨I.ok,Own.nj b1,Own.nj b2,Own.nj b3,I.oko,I.okp,I.okh,by omega,by omega,by omega⟩
 have S25:=DR (ps:=[au i12 (f'.s.av wo wp wh),bm 34 wh (f'.h.map b6.av),bm 36 wp (f'.p.map aL.av),bm 36 wo (f'.o.map aL.av),au i1 (r.av v)]) (x:=⟨wo,wp,wh⟩) (i:=3) (j:=2) (m:=1) (xs:=[0,4]) s25 rfl rfl rfl (by decide) (by intro y hy;simp at hy ⊢;omega)
 have S25:Sp F G [jP tb (kq t s f'),au i12 (f'.s.av wo wp wh),au i1 (r.av v)] G25:=S25
 have k':=sT k (s:=s) I
 have hqq:(kq t s f').q=t.q:=rfl
 have fin:∀ {G2:ak}{m:cr}{K:ah->ak->Prop},Sp F G [jP tb (kq t s f'),au i12 (f'.s.av wo wp wh),au i1 (r.av v)] G2->m.ok->sL (t.c s) (t.f s) f' r=[m]->(∀ F' G',(jP tb (uD t s r f')).p G' F'->Ch F G F' G'->K (.tuple []) G') ->
   al P cl.n [.ptr tb [] 0,.int .i64 (bI s),m.av] G2 K:=by
  intro G2 m K sp hm he hK
  have ep:uD t s r f'=oW (kq t s f') (!s) ((kq t s f').q (!s)++[m]):=by unfold uD;rw[he];rfl
  refine sp.call (i:=0) rfl (jP tb (uD t s r f')) fun F1 h1 kk=>?_
  refine cl.use h1 k' (by omega) hm fun F2 G3 h2 c2=>?_
  rw[<- ep]at h2
  have s3:=kk F2 G3 h2 c2
  have s4:Sp F G [jP tb (uD t s r f')] G3:=(s3.erase 1).erase 1
  obtain⟨F',q1,q2⟩:=s4.out
  exact hK F' G3 q1 q2
 have hr1:=au.own (i:=2) S25 rfl
 refine ae (Rc.sj hr1 hr hv) ?_
 rw[bB,aa,aI]
 refine⟨fun hk=>?_,fun hk1=>?_⟩
 ·refine ae (Rc.Al hr1 hr hv) ?_
  refine ec.use hr.upd fun G30 c30=>?_
  exact fin (S25.tmp c30) (vY hr.upd) (by unfold sL;rw[if_pos hk]) hQ
 ·rw[bB,aa,aI]
  refine⟨fun hk=>?_,fun hk2=>?_⟩
  ·obtain⟨F1,hF1⟩:=S25.get (i:=0) rfl
   obtain⟨l2,w2,a2⟩:=jP.at_ hF1
   refine ae jm ?_
   refine ae qP ?_
   refine ae (qN s) ?_
   refine ae (a2.ldC k' s) ?_
   refine ae (St.ld (au.own (i:=1) S25 rfl) I.ok lx) ?_
   refine bP.use hS fun yo yp yh G40 t40=>?_
   have c40:=t40.ch
   refine⟨⟨(a2.mv c40).ldC k' s,trivial⟩,?_⟩
   refine jC.use (ka.copy (i:=2) (j:=1) (k:=0) hS t40 rfl rfl rfl) (k.c s) fun G42 c42=>?_
   exact fin ((S25.tmp c40).tmp c42) (xT I.ok) (by unfold sL;rw[if_neg hk1,if_pos hk];rfl) hQ
  ·rw[bB,aa,aI]
   refine⟨fun hk=>?_,fun hk3=>?_⟩
   ·obtain⟨F1,hF1⟩:=S25.get (i:=0) rfl
    obtain⟨l2,w2,a2⟩:=jP.at_ hF1
    refine ae jm ?_
    refine ae qP ?_
    refine ae (qN s) ?_
    refine ae (a2.ldC k' s) ?_
    refine iU.use (k.c s) fun G49 c49=>?_
    exact fin (S25.tmp c49) (ve (k.c s) J.ok.loc) (by unfold sL;rw[if_neg hk1,if_neg hk2,if_pos hk];rfl) hQ
   ·have ep:uD t s r f'=kq t s f':=by
     unfold uD sL
     rw[if_neg hk1,if_neg hk2,if_neg hk3,List.append_nil]
     exact EZ (kq t s f') (!s)
    rw[ep]at hQ
    have s4:Sp F G [jP tb (kq t s f')] G25:=(S25.erase 1).erase 1
    obtain⟨F',q1,q2⟩:=s4.out
    exact hQ F' G25 q1 q2
theorem aas.use {F:List AId}{n:Nat}{s:Bool}{m:cr}{d:CfM}(hT:Tab G) (h:(jP tb t).p G F) (k:kK t n) (hn:n≤99999999) (ht:aaF (t.c s) d (t.f s) m)
  (hQ:∀ F' G',(jP tb (sD t s m).1).p G' F'->Ch F G F' G'->Q (.bool true) G'):al P aas.n [.ptr tb [] 0,.int .i64 (bI s),m.av] G Q:=by
 refine aas.sound ?_
 unfold aas.S
 obtain⟨l,w,a⟩:=jP.at_ h
 have I:=k.f s
 have hm:=ht.ok
 have hlo:=I.lo
 have hlp:=I.lp
 have hso:=I.ok
 have hl:bw (l s).o/\bw (l s).p/\bw (l s).h:=a.lv s
 have hS:=a.IV k s
 intro i1 f1
 have s1:=(Sp.nil G).row f1 m.av
 refine ae jm ?_
 refine ae qO ?_
 refine ae (qM s) ?_
 refine ae ((a.mv s1.ch).ldS k s) ?_
 refine St.nw s1 hso hl fun i7 G9 s9=>?_
 have s9:Sp [] G [au i7 ((t.f s).s.av (l s).o (l s).p (l s).h),au i1 m.av] G9:=s9
 have a9:=a.mv s9.ch
 have hg:=gx (i:=1) s9 rfl hm
 refine ae hg.1 ?_
 rw[bB,aa]
 intro J64
 have h1:isU m->J64 (.bool true) G9:=by
  intro hk
  have h0:=ht.upd hk
  unfold sD at hQ
  rw[if_pos (show m.kind=1\/m.kind=2\/m.kind=3 from hk),if_pos h0]at hQ
  have hu:=vF hm
  obtain⟨u,hue⟩:∃ u,Bw m=u:=⟨_,rfl⟩
  rw[hue]at hu hQ h0
  simp -zeta only [J64,aN]
  refine ae (St.ld (au.own (i:=0) s9 rfl) hso hl) ?_
  refine ae (gx (i:=1) s9 rfl hm).2.2.2.2.2.2.2.2 ?_
  refine bP.use (hS.mv s9.ch) fun wo wp wh G21 t21=>?_
  have s21:Sp [] G [bm 34 wh ((t.f s).h.map b6.av),bm 36 wp ((t.f s).p.map aL.av),bm 36 wo ((t.f s).o.map aL.av),au i7 ((t.f s).s.av (l s).o (l s).p (l s).h),au i1 m.av] G21:=u9 s9 t21
  refine⟨⟨(gx (i:=4) s21 rfl hm).2.2.2.2.2.2.2.2,trivial⟩,?_⟩
  refine dd.use hm fun G23 c23=>?_
  rw[hue]
  have s23:=s21.tmp c23
  refine jA.use (ka.copy (i:=2) (j:=1) (k:=0) hS s23 rfl rfl rfl) hu fun G25 c25=>?_
  have s25:=s23.tmp c25
  have hS25:=hS.mv s25.ch
  refine ae (St.eH (au.own (i:=3) s25 rfl) hso hl) ?_
  refine ae (gx (i:=4) s25 rfl hm).2.2.2.2.2.2.2.2 ?_
  refine ae jm ?_
  refine ae qO ?_
  refine Jz s25 hS25.p.gZ I.okp (by omega) fun v30 G31 s31=>?_
  refine⟨⟨(gx (i:=5) s31 rfl hm).2.2.2.2.2.2.2.2,trivial⟩,?_⟩
  refine dd.use hm fun G33 c33=>?_
  rw[hue]
  have s33:=s31.tmp c33
  refine Jy (i:=0) s33 rfl hu (by omega) fun v36 G37 s37=>?_
  refine ae (qM s) ?_
  refine ae (Hx s) ?_
  have S37:Sp F G [jP tb t,bm 36 v36 (((t.f s).p++[u]).map aL.av)] G37:=(Sp.with h s37).take 2
  refine IG S37 k fun G40 S40=>?_
  rw[bB,aa,dT_ h0]
  obtain⟨F',q1,q2⟩:=S40.out
  exact hQ F' G40 q1 q2
 have put:∀ {G2:ak}{ps:List LP}{r:RcM}{lu:List aL}{v:ah}{f':StF}{K:ah->ak->Prop},Sp F G (jP tb t::ps) G2->r.ok->bw v->ff 36 G2 v (lu.map aL.av)->(∀ u∈lu,u.ok)->lu.length≤4096->Bb (t.f s) r lu f'->iY f' ->
   (∀ F' G',(jP tb (uD t s r f')).p G' F'->Ch F G F' G'->K (.bool true) G')->al P aar.n [.ptr tb [] 0,.int .i64 (bI s),r.av v] G2 K:=by
  intro G2 ps r lu v f' K sp hr hv hlu ok1 hll ap I' hK
  have sp1:Sp F G [jP tb t] G2:=sp.take 1
  refine sp1.call (i:=0) rfl (jP tb (uD t s r f')) fun F1 h1 kk=>?_
  refine aar.use h1 k hn hr hv hlu ok1 hll ap I' fun F2 G3 h2 c2=>?_
  obtain⟨F',q1,q2⟩:=(kk F2 G3 h2 c2).out
  exact hK F' G3 q1 q2
 have h2:¬ isU m->J64 (.bool false) G9:=by
  intro hk
  unfold sD at hQ
  rw[if_neg (show ¬ (m.kind=1\/m.kind=2\/m.kind=3) from hk)]at hQ
  simp -zeta only [J64,aK]
  rw[bB,aa,aI]
  refine⟨fun h4=>?_,fun h4=>?_⟩
  ·have h0:=ht.came h4
   rw[if_pos h0]at hQ
   refine ae jm ?_
   refine ae qP ?_
   refine ae (qN s) ?_
   refine ae (a9.ldC k s) ?_
   refine ae (St.ld (au.own (i:=0) s9 rfl) hso hl) ?_
   refine ae (gx (i:=1) s9 rfl hm).2.2.2.2.2.2.2.2 ?_
   refine bP.use (hS.mv s9.ch) fun wo wp wh G50 t50=>?_
   have s50:Sp [] G [bm 34 wh ((t.f s).h.map b6.av),bm 36 wp ((t.f s).p.map aL.av),bm 36 wo ((t.f s).o.map aL.av),au i7 ((t.f s).s.av (l s).o (l s).p (l s).h),au i1 m.av] G50:=u9 s9 t50
   refine⟨⟨(gx (i:=4) s50 rfl hm).2.2.2.2.2.2.2.2,(a.mv s50.ch).ldC k s,trivial⟩,?_⟩
   refine jB.use (ka.copy (i:=2) (j:=1) (k:=0) hS s50 rfl rfl rfl) (k.c s) hm fun w51 G52 t52=>?_
   have s52:=u9 s50 t52
   have lw:=(bm.own (i:=0) s52 rfl).leaf
   obtain⟨e,c2,c3,c4,_⟩:=I.came (c:=t.c s) hm h0
   generalize mU (t.c s) (t.f s) m=X at hQ s52 lw h0 e
   have hco:X.r.ok:=by rw[e];exact c2
   refine ae (tv0 _ _) ?_
   refine ae (tv1 _ _) ?_
   refine Rc.nw s52 hco lw fun i55 G57 s57=>?_
   rw[bB,aa,dT_ h0,aN]
   refine ae (Rc.ld (au.own (i:=0) s57 rfl) hco lw) ?_
   subst e
   refine put (Sp.with h s57) c2 lw (bm.own (i:=1) s57 rfl).is (fun u hu=>I.okp u (List.mem_of_mem_drop hu)) (by rw[List.length_drop];omega) c4 c3 fun F' G' q1 q2=>?_
   exact hQ F' G' q1 q2
  ·obtain⟨h0,_⟩:=ht.rev hk h4
   rw[if_neg (fun hh=>h4 (I.came (c:=t.c s) hm hh).2.2.2.2.1),if_pos h0]at hQ
   refine ae (St.ld (au.own (i:=0) s9 rfl) hso hl) ?_
   refine ae (gx (i:=1) s9 rfl hm).2.2.2.2.2.2.2.2 ?_
   refine bP.use (hS.mv s9.ch) fun wo wp wh G68 t68=>?_
   have s68:Sp [] G [bm 34 wh ((t.f s).h.map b6.av),bm 36 wp ((t.f s).p.map aL.av),bm 36 wo ((t.f s).o.map aL.av),au i7 ((t.f s).s.av (l s).o (l s).p (l s).h),au i1 m.av] G68:=u9 s9 t68
   refine⟨⟨(gx (i:=4) s68 rfl hm).2.2.2.2.2.2.2.2,trivial⟩,?_⟩
   refine gL.use (hT.mono s68.ro) (ka.copy (i:=2) (j:=1) (k:=0) hS s68 rfl rfl rfl) hm fun G70 c70=>?_
   have s70:=s68.tmp c70
   have hap:iY (uQ (t.f s) (jR (t.f s) m).1)/\Bb (t.f s) (jR (t.f s) m).1 [] (uQ (t.f s) (jR (t.f s) m).1)/\(jR (t.f s) m).1.ok:=by
    obtain⟨e,h2,h3,h4,_⟩:=I.y8 hm h0
    rw[e];exact⟨h3,h4,h2⟩
   generalize jR (t.f s) m=Y at hQ hap h0
   obtain⟨p1,p2,hro⟩:=hap
   refine ae (tr0 _) ?_
   refine ae (tr1 _) ?_
   refine Rc.nw s70 hro bw.nil fun i73 G75 s75=>?_
   rw[bB,aa,dT_ h0,aN]
   refine ae (Rc.ld (au.own (i:=0) s75 rfl) hro bw.nil) ?_
   refine put (lu:=[]) (Sp.with h s75) hro bw.nil (.inr ⟨rfl,rfl⟩) (fun u hu=>by cases hu) (by simp) p2 p1 fun F' G' q1 q2=>?_
   exact hQ F' G' q1 q2
 rw[aI]
 refine⟨fun e1=>by rw[dT_ e1];exact h1 (.inl e1),fun e1=>?_⟩
 rw[bB,aa,aI]
 refine⟨fun e2=>by rw[dT_ e2];exact h1 (.inr (.inl e2)),fun e2=>?_⟩
 rw[bB,aa]
 by_cases e3:m.kind=3
 ·rw[dT_ e3]
  exact h1 (.inr (.inr e3))
 ·rw[dF_ e3]
  exact h2 (by rintro (h | h | h);exact e1 h;exact e2 h;exact e3 h)
theorem aaw.use {f:StF}{c:CfM}{o:jj}{vo vp vh:ah}(hS:ka G f vo vp vh) (I:iY f) (hc:c.ok) (ho:o.ok) (hQ:∀ G',Ch [] G [] G'->Q (w8 (lD f o)) G'):al P aaw.n [c.av,f.s.av vo vp vh,o.av] G Q:=by
 have hs:=hS.ok
 have hl:=hS.lv
 have hok:=EA I ho
 refine aaw.sound ?_
 unfold aaw.S
 rw[uU]
 intro i1 f1
 have s1:=(Sp.nil G).row f1 c.av
 intro i3 f3
 have s3:=s1.row f3 (f.s.av vo vp vh)
 intro i5 f5
 have s5:=s3.row f5 o.av
 intro i7 f7
 have s7:=s5.row f7 (RcM.zero.av .nilSlice)
 revert s7
 generalize ak.upd _ i7 _=G8
 intro s7
 have hS7:=hS.mv s7.ch
 have hg:=au.own (i:=1) s7 rfl
 have hf:=au.own (i:=2) s7 rfl
 have fin:∀ {x:RcM×Int}{G2:ak},lD f o=x->Ch [] G8 [] G2->wv (aP (w8 x) 0) fun v16=>wv (aP (w8 x) 1) fun v17=>wg (aF T G2 ax (.ptr i7 [] 0) v16) fun G18=>wv (ag T G18 ax (.ptr i7 [] 0)) fun v19=>Q (.tuple [v19,v17]) G18:=by
  intro x G2 hx c2
  rw[hx]at hok hQ
  have s2:=s7.tmp c2
  refine ae (tr0 _) ?_
  refine ae (tr1 _) ?_
  refine Rc.st (i:=0) s2 rfl zok bw.nil hok bw.nil fun G3 s3=>?_
  refine ae (Rc.ld (au.own (i:=0) s3 rfl) hok bw.nil) ?_
  exact hQ G3 s3.ch
 unfold lD at fin
 refine ae (Oq.sj hg ho) ?_
 rw[bB,aa,aI]
 refine⟨fun h1=>?_,fun ha=>?_⟩
 ·refine ae (St.ld hf hs hl) ?_
  refine ae (Oq.xD hg ho) ?_
  refine ae (Oq.sk hg ho) ?_
  refine gM.use hS7 ho.hash fun G2 c2=>?_
  exact fin (by rw[if_pos h1]) c2
 rw[bB,aa,aI]
 refine⟨fun h1=>?_,fun hb=>?_⟩
 ·refine ae (St.ld hf hs hl) ?_
  refine ae (Oq.B0 hg ho) ?_
  refine ae (Oq.sk hg ho) ?_
  refine iT.use hS7 ho.id ho.hash fun G2 c2=>?_
  exact fin (by rw[if_neg ha,if_pos h1]) c2
 rw[bB,aa,aI]
 refine⟨fun h1=>?_,fun hc3=>?_⟩
 ·refine ae (St.ld hf hs hl) ?_
  refine ae (Oq.B0 hg ho) ?_
  refine ae (Oq.zc hg ho) ?_
  refine iV.use hS7 ho.id ho.note fun G2 c2=>?_
  exact fin (by rw[if_neg ha,if_neg hb,if_pos h1]) c2
 rw[bB,aa,aI]
 refine⟨fun h1=>?_,fun hd=>?_⟩
 ·refine ae (Cf.ld (au.own (i:=3) s7 rfl) hc) ?_
  refine ae (St.ld hf hs hl) ?_
  refine jz.use hS7 fun G2 c2=>?_
  exact fin (by rw[if_neg ha,if_neg hb,if_neg hc3,if_pos h1]) c2
 ·have fin:=fin (x:=noR 1) (by rw[if_neg ha,if_neg hb,if_neg hc3,if_neg hd]) (Ch.refl _ _)
  refine ae Ic ?_
  exact fin
end
end Go.Esc.M
