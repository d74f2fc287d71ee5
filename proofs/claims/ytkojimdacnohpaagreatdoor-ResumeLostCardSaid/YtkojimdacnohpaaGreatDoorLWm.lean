import Derived.Test.YtkojimdacnohpaaGreatDoorLWu
set_option maxHeartbeats 4000000
set_option linter.unusedSimpArgs false
set_option linter.unusedVariables false
set_option maxRecDepth 20000
namespace Go.Esc.M
open Go Go.Esc
theorem J9 {G:ak}{R d:Nat}{v:ah}{m:Nat}(h:wt T G R (d+3) ja v m):∃ o:jj,v=o.av/\o.ok:=by
 obtain⟨cs,ms,rfl,hf,rfl⟩:=wP kI rfl h
 obtain⟨c1,cs,m1,ms,rfl,rfl,h1,hf⟩:=nA hf
 obtain⟨c2,cs,m2,ms,rfl,rfl,h2,hf⟩:=nA hf
 obtain⟨c3,cs,m3,ms,rfl,rfl,h3,hf⟩:=nA hf
 obtain⟨c4,cs,m4,ms,rfl,rfl,h4,hf⟩:=nA hf
 obtain⟨c5,cs,m5,ms,rfl,rfl,h5,hf⟩:=nA hf
 obtain⟨c6,cs,m6,ms,rfl,rfl,h6,hf⟩:=nA hf
 obtain⟨c7,cs,m7,ms,rfl,rfl,h7,hf⟩:=nA hf
 obtain⟨rfl,rfl⟩:=Gk hf
 obtain⟨a1,rfl,w1,_⟩:=wQ iD rfl h1
 obtain⟨a2,rfl,_⟩:=J8 lL rfl h2
 obtain⟨a3,rfl,w3,_⟩:=wQ cu rfl h3
 obtain⟨a4,rfl,w4,_⟩:=wQ cu rfl h4
 obtain⟨a5,rfl,w5,_⟩:=Cw bZ rfl cW rfl h5
 obtain⟨a6,rfl,hR,hn,_⟩:=Lj fS rfl h6
 obtain⟨a7,rfl,w7,_⟩:=wQ cu rfl h7
 exact⟨⟨a1,a2,a3,a4,a5,a6,a7⟩,rfl,⟨vt.1 w1,vt.1 w3,vt.1 w4,w5,hn,vt.1 w7⟩⟩
theorem Ka {G:ak}{R d:Nat}{v:ah}{m:Nat}(h:wt T G R (d+4) jd v m):∃ l:List jj,sS 38 G v (l.map jj.av)/\(∀ u∈l,u.ok)/\l.length≤R:=by
 obtain⟨xs,ms,hro,hall,hms,hR,_⟩:=Mc jj.av (fun u m=>u.ok/\1≤m) nV rfl kI (fun c m h=>by
  obtain⟨u,hu,ho⟩:=J9 h
  obtain⟨_,ms,_,_,e⟩:=wP kI rfl h
  exact⟨u,hu,ho,by omega⟩) h
 have e:kh.bytes=88:=rfl
 rw[e]at hR
 refine⟨xs,hro,fun u hu=>?_,by omega⟩
 obtain⟨m,hm,_⟩:=hall.mem hu
 exact hm.1
theorem Kb {G:ak}{R d:Nat}{v:ah}{m:Nat}(h:wt T G R (d+4) db v m):∃ x:DlM,v=x.av/\x.ok:=by
 obtain⟨cs,ms,rfl,hf,rfl⟩:=wP nf rfl h
 obtain⟨c1,cs,m1,ms,rfl,rfl,h1,hf⟩:=nA hf
 obtain⟨c2,cs,m2,ms,rfl,rfl,h2,hf⟩:=nA hf
 obtain⟨c3,cs,m3,ms,rfl,rfl,h3,hf⟩:=nA hf
 obtain⟨c4,cs,m4,ms,rfl,rfl,h4,hf⟩:=nA hf
 obtain⟨rfl,rfl⟩:=Gk hf
 obtain⟨a1,rfl,w1,_⟩:=wQ cu rfl h1
 obtain⟨a2,rfl,w2,_⟩:=wQ cu rfl h2
 obtain⟨a3,b3,rfl,w3,w3'⟩:=Du h3
 obtain⟨a4,b4,rfl,w4,w4'⟩:=Du h4
 exact⟨⟨a1,a2,a3,b3,a4,b4⟩,rfl,⟨vt.1 w1,vt.1 w2,w3,w3',w4,w4'⟩⟩
theorem Lt {G:ak}{v:ah}{l:List jj}{j:Nat}{u:jj}(h:ff 38 G v (l.map jj.av)) (hj:l[j]?=some u):∃ a,aO T jd v (.int .i64 (j:Int))=some a/\ag T G ja a=some u.av:=
 h.at_ (k:=.i64) (i:=kR) (ie:=kh) (T:=T) (t:=jd) (e:=ja) nV rfl kI (by rw[List.getElem?_map,hj];rfl) rfl
theorem GA {G:ak}{v:ah}{l:List jj}(h:ff 38 G v (l.map jj.av)):fU T G jd v=some (.int .i64 (l.length:Nat)):=by
 rw[h.len (i:=kR) nV rfl,List.length_map]
def acI (t:me) (l:List jj):me:=l.foldl stepT t
theorem acK:∀ {l:List jj}{t:me},kK t 10240->Few t->(∀ o∈l,o.ok)->kK (acI t l) 10240/\Few (acI t l)
 | [],t,k,h,_=>⟨k,h⟩
 | o::l,t,k,h,ho=>by
  have e:acI t (o::l)=acI (stepT t o) l:=rfl
  rw[e]
  have h1:=adj k h (ho o (by simp))
  exact acK (LN (ade k (ho o (by simp))) h1) h1 fun x hx=>ho x (by simp[hx])
theorem ac1 {l:List jj}{t:me}{j:Nat}{o:jj}(h:l[j]?=some o):acI t (l.take (j+1))=stepT (acI t (l.take j)) o:=by
 rw[List.take_add_one,h]
 unfold acI
 rw[List.foldl_append]
 rfl
def hiM (i n:Int) (x:List UInt8):cr:={ cr.zero with kind:=6,index:=i,next:=n,secret:=x }
theorem adh {i n:Int}{x:List UInt8}(hi:I64 i) (hn:I64 n) (hx:x.length=32):(hiM i n x).ok:=⟨iu 6 (by decide) (by decide),cL,cL,hi,hn,rfl,hx,by simp[hiM,cr.zero]⟩
theorem acY {i n:Int}{x:List UInt8}(h:x.length=32):bj T aW [(0,.int .i64 6),(3,.int .i64 i),(4,.int .i64 n),(6,.agg (x.map u8v))]=some (hiM i n x).av:=
 uo (fun p hp=>by
  simp only[List.mem_cons,List.not_mem_nil,or_false]at hp
  rcases hp with rfl|rfl|rfl|rfl
  ·rfl
  ·rfl
  ·rfl
  ·exact oJ h) rfl
def acC (c:CfM) (n:Int):Prop:=n<1\/(n≤281474976710655/\(jS c.seed (n-1)).2=0)
def acF (c:CfM) (n:Int):List UInt8:=if n<1 then h0 else (jS c.seed (n-1)).1
theorem acP (c:CfM) (f:StF) (m:cr):(acz c f m).2=acy c f m:=by
 unfold acz
 split
 ·rfl
 ·rename_i h
  show (0:Int)=acy c f m
  omega
theorem acR {c:CfM}{i n:Int}(h:acC c n):acx c (hiM i n (acF c n))=true:=by
 unfold acx acF
 show (if 0<n then decide (n≤281474976710655) && (decide ((jS c.seed (n-1)).2=0) && decide ((jS c.seed (n-1)).1=if n<1 then h0 else (jS c.seed (n-1)).1)) else if n=0 then decide ((if n<1 then h0 else (jS c.seed (n-1)).1)=h0) else true)=true
 by_cases h1:0<n
 ·rw[if_pos h1,if_neg (by omega)]
  rcases h with h|⟨h2,h3⟩
  ·omega
  ·rw[dT_ h2,dT_ h3,dT_ rfl];rfl
 ·rw[if_neg h1,if_pos (show n<1 by omega),dT_ rfl]
  split<;>rfl
theorem acH {c:CfM}{i n:Int}{q:List UInt8}(hn:0≤n) (h:q≠acF c n\/¬ acC c n):acx c (hiM i n q)=false:=by
 unfold acx
 unfold acF acC at h
 show (if 0<n then decide (n≤281474976710655) && (decide ((jS c.seed (n-1)).2=0) && decide ((jS c.seed (n-1)).1=q)) else if n=0 then decide (q=h0) else true)=false
 by_cases h1:0<n
 ·rw[if_pos h1]
  rw[if_neg (by omega)]at h
  rcases h with h|h
  ·rw[dF_ (p:=_=q) (fun e=>h e.symm),Bool.and_false,Bool.and_false]
  ·by_cases h2:n≤281474976710655
   ·rw[dF_ (p:=(jS c.seed (n-1)).2=0) (fun e=>h (.inr ⟨h2,e⟩)),Bool.false_and,Bool.and_false]
   ·rw[dF_ h2,Bool.false_and]
 ·rw[if_neg h1,if_pos (by omega)]
  rw[if_pos (by omega)]at h
  rcases h with h|h
  ·rw[dF_ h]
  ·exact absurd (.inl (by omega)) h
theorem acJ {c:CfM}{f:StF}{i n:Int}{q:List UInt8}(h:acx c (hiM i n q)=false):acy c f (hiM i n q)=100:=by
 unfold acy
 rw[if_neg (by show ¬ ((6:Int)≠6);decide),if_pos h]
theorem acT {c:CfM}{f:StF}{i n:Int}{q:List UInt8}(h:acx c (hiM i n q)=true):acy c f (hiM i n q) =
  if f.s.loc<n then 180 else if n<0\/(n≠f.s.loc/\n≠IntKind.i64.wrap (f.s.loc-1)) then 90 else if i≠IntKind.i64.wrap (f.s.rem+1)/\(i≠f.s.rem\/f.s.rem≠IntKind.i64.wrap (f.s.ack+1)) then 90 else 0:=by
 unfold acy
 rw[if_neg (by show ¬ ((6:Int)≠6);decide),if_neg (by rw[h];decide)]
 rfl
theorem acN {G:ak}{d ops n i s:ah}{m1 m2 m3 m4 m5:Nat}(hT:Tab G) (h1:wt T G reachBytes 6 db d m1) (h2:wt T G reachBytes 6 jd ops m2) (h3:wt T G reachBytes 6 aq n m3) (h4:wt T G reachBytes 6 aq i m4) (h5:wt T G reachBytes 6 ar s m5) :
  al P aci.n [d,ops,n,i,s] G fun v _=>v=.bool true:=by
 obtain⟨d,rfl,hd⟩:=Kb h1
 obtain⟨l,hro,hok,hlen⟩:=Ka h2
 have hlen:l.length≤140737488351232:=hlen
 obtain⟨n,rfl,wn,_⟩:=wQ cu rfl h3
 obtain⟨i,rfl,acb,_⟩:=wQ cu rfl h4
 obtain⟨q,rfl,ab5,_⟩:=Cw bZ rfl cW rfl h5
 have wn:=vt.1 wn
 have acb:=vt.1 acb
 refine aci.sound ?_
 unfold aci.S
 intro i1 f1
 have s1:=(Sp.nil G).row f1 d.av
 intro i3 f3
 have s3:=s1.row f3 (.agg (q.map u8v))
 revert s3
 generalize ak.upd _ i3 _=G4
 intro s3
 refine acj.use (hT.mono s3.ro) fun G6 c6=>?_
 have s6:=s3.tmp c6
 have s6:Sp [] G [au i3 (.agg (q.map u8v)),au i1 d.av] G6:=s6
 rw[dx,aa,Bool.not_true,aK]
 refine ae (Dl.ld (au.own (i:=1) s6 rfl) hd) ?_
 refine fC.use hd (fun _ G10 c10=>?_) fun hb tb G10 t10=>?_
 ·refine ae (tv0 _ _) ?_
  refine ae (tv1 _ _) ?_
  rw[dx,aa,Bool.not_false,aN]
 ·refine ae (tv0 _ _) ?_
  refine ae (tv1 _ _) ?_
  rw[dx,aa,Bool.not_true,aK]
  have s10:Sp [] G [jP tb (Ig d),au i3 (.agg (q.map u8v)),au i1 d.av] G10:=u9 s6 t10
  have k0:=(KU hd hb).more (show 0≤10240 by decide)
  have f0:=KJ d
  have hc0:(Ig d).c=AL d:=rfl
  generalize Ig d=t0 at s10 k0 hc0 f0
  intro R14 hR
  have hend:∀ (t:me) (G15:ak),kK t 1048576->Sp [] G [jP tb t,au i3 (.agg (q.map u8v)),au i1 d.av] G15->R14 [ops,.int .i64 n,.int .i64 i,.ptr i3 [] 0,.ptr tb [] 0,.int .i64 (l.length:Nat)] G15:=by
   intro t G15 k S15
   refine hR _ _ _ _ _ _ _ ?_
   refine ae (GA (hro.cap.gZ.ch' S15.ch)) ?_
   rw[aM,aa,dF_ (by omega),aK]
   have hg3:=au.own (i:=1) S15 rfl
   obtain⟨F1,hF1⟩:=S15.get (i:=0) rfl
   obtain⟨lv,wv_,a⟩:=jP.at_ hF1
   have I:=k.f false
   have hc:=k.c false
   have hS:=a.IV k false
   have ho:=I.ok
   have hl:bw (lv false).o/\bw (lv false).p/\bw (lv false).h:=a.lv false
   have hldS:∀ {G2:ak},Ch [] G15 [] G2->ag T G2 aE (aS tb false)=some ((t.f false).s.av (lv false).o (lv false).p (lv false).h):=fun c2=>(a.mv c2).ldS k false
   refine ae jm ?_
   refine ae qP ?_
   refine ae (qN false) ?_
   refine ae (a.ldC k false) ?_
   refine ae jm ?_
   refine ae qO ?_
   refine ae (qM false) ?_
   refine ae (a.ldS k false) ?_
   rw[EV,show rK=CfM.zero.av from rfl]
   clear a hR
   generalize t.f false=f at *
   generalize (lv false).o=vo at *
   generalize (lv false).p=vp at *
   generalize (lv false).h=vh at *
   generalize t.c false=c at *
   have acg:=CfM.bq
   intro i37 f37
   have s37:=(Sp.nil G15).row f37 CfM.zero.av
   intro i39 f39
   have s39:=s37.row f39 (StM.zero.av .nilSlice .nilSlice .nilSlice)
   revert s39
   generalize ak.upd _ i39 _=G40
   intro s39
   refine Cf.st (i:=1) s39 rfl acg hc fun G41 s41=>?_
   refine⟨⟨hldS s41.ch,trivial⟩,?_⟩
   refine St.st (i:=0) s41 rfl StM.bq lv0 ho hl fun G42 s42=>?_
   have s42:Sp [] G15 [au i39 (f.s.av vo vp vh),au i37 c.av] G42:=s42
   refine ae (Cf.ue (au.own (i:=1) s42 rfl) hc) ?_
   rw[b7,aa]
   refine cI.use hc.seed fun G46 c46=>?_
   have s46:=s42.tmp c46
   have hxl:=mZ hc.seed (IntKind.i64.wrap (n-1))
   have hX:1≤n->jS c.seed (IntKind.i64.wrap (n-1))=jS c.seed (n-1):=fun h=>by rw[i64_in (by omega) (by have:=wn.2;omega)]
   generalize jS c.seed (IntKind.i64.wrap (n-1))=X at hxl hX
   refine ae (hi0 _) ?_
   refine ae (hi1 _) ?_
   refine pg s46 hxl fun i49 G51 s51=>?_
   have s51:Sp [] G15 [au i49 (.agg (X.1.map u8v)),au i39 (f.s.av vo vp vh),au i37 c.av] G51:=s51
   intro J124
   have p124:∀ b:Bool,(1≤n->(b=true ↔ acC c n))->J124 (.bool b) G51:=by
    intro b hb
    simp -zeta only [J124]
    rw[aM,aa]
    intro J123
    have p123:∀ (b:Bool) (p:List UInt8) (G59:ak),Sp [] G15 [au i49 (.agg (p.map u8v)),au i39 (f.s.av vo vp vh),au i37 c.av] G59->(b=true ↔ acC c n)->p=acF c n->p.length=32->J123 (.bool b) G59:=by
     intro b p G59 s59 hb hp lp
     simp -zeta only [J123]
     have hg39:=au.own (i:=1) s59 rfl
     refine ae (Cf.ld (au.own (i:=2) s59 rfl) hc) ?_
     refine ae (St.ld hg39 ho hl) ?_
     refine ae (bM lp (au.own (i:=0) s59 rfl)) ?_
     refine ae (acY lp) ?_
     refine bP.use (hS.mv s59.ch) fun wo wp wh G66 t66=>?_
     have s66:Sp [] G15 [bm 34 wh (f.h.map b6.av),bm 36 wp (f.p.map aL.av),bm 36 wo (f.o.map aL.av),au i49 (.agg (p.map u8v)),au i39 (f.s.av vo vp vh),au i37 c.av] G66:=u9 s59 t66
     refine⟨⟨bM lp (au.own (i:=3) s66 rfl),Cf.ld (au.own (i:=5) s66 rfl) hc,trivial⟩,?_⟩
     refine ach.use (ka.copy (i:=2) (j:=1) (k:=0) hS s66 rfl rfl rfl) hc (adh acb wn lp) fun w67 G68 t68=>?_
     have s68:=s66.tmp t68.ch
     refine ae (tv0 _ _) ?_
     refine ae (tv1 _ _) ?_
     refine ae (Cf.ld (au.own (i:=5) s68 rfl) hc) ?_
     refine ae (St.ld (au.own (i:=4) s68 rfl) ho hl) ?_
     have hq:∀ {G2:ak},Ch [] G15 [] G2->ag T G2 ar (.ptr i3 [] 0)=some (.agg (q.map u8v)):=fun c2=>bM ab5 (c2.others _ _ hg3 (by simp))
     refine ae (hq s68.ch) ?_
     refine ae (acY ab5) ?_
     refine bP.use (hS.mv s68.ch) fun xo xp xh G76 t76=>?_
     have s76:Sp [] G15 (_++_) G76:=u9 s68 t76
     refine⟨⟨hq s76.ch,Cf.ld (au.own (i:=8) s76 rfl) hc,trivial⟩,?_⟩
     refine ach.use (ka.copy (i:=2) (j:=1) (k:=0) hS s76 rfl rfl rfl) hc (adh acb wn ab5) fun w77 G78 t78=>?_
     have s78:=s76.tmp t78.ch
     refine ae (tv0 _ _) ?_
     refine ae (tv1 _ _) ?_
     rw[acP,acP]
     intro J122
     have hgl:=au.own (i:=7) s78 rfl
     have main:J122 (.bool false) G78:=by
      simp -zeta only [J122]
      rw[aK,dx,aa]
      cases b with
      | false=>
       rw[Bool.not_false,aN]
       have hk:¬ acC c n:=fun h=>by have:=hb.2 h;cases this
       have hn:1≤n:=Classical.byContradiction fun h=>hk (.inl (by omega))
       rw[acJ (acH (by omega) (.inr hk)),bB,aa]
       rfl
      | true=>
       rw[Bool.not_true,aK]
       have hk:acC c n:=hb.1 rfl
       have hj:=acT (c:=c) (f:=f) (i:=i) (n:=n) (q:=p) (by rw[hp];exact acR hk)
       have hl0:=I.loc0
       have hl1:=I.loc1
       have ha0:=I.ack0
       have hr:=I.rem
       have hr1:=I.rem1
       rw[i64_in (n:=f.s.loc-1) (by omega) (by omega),i64_in (n:=f.s.rem+1) (by omega) (by omega),i64_in (n:=f.s.ack+1) (by omega) (by omega)]at hj
       rw[hj]
       refine ae (St.qb hgl ho hl) ?_
       rw[da,aa,aI]
       refine⟨fun h1=>?_,fun h1=>?_⟩
       ·rw[if_pos h1,bB,aa]
        rfl
       rw[if_neg h1]
       intro J115
       have b115:(n<0\/(n≠f.s.loc/\n≠f.s.loc-1)\/(i≠f.s.rem+1/\(i≠f.s.rem\/f.s.rem≠f.s.ack+1)))->az T .eql bD (.int .i64 (if n<0\/n≠f.s.loc/\n≠f.s.loc-1 then 90 else if i≠f.s.rem+1/\(i≠f.s.rem\/f.s.rem≠f.s.ack+1) then 90 else 0)) (.int .i64 90)=some (.bool true):=by
        intro h
        have e:(if n<0\/n≠f.s.loc/\n≠f.s.loc-1 then (90:Int) else if i≠f.s.rem+1/\(i≠f.s.rem\/f.s.rem≠f.s.ack+1) then 90 else 0)=90:=by
         split
         ·rfl
         ·rw[if_pos (by omega)]
        rw[e];rfl
       have g115:¬ (n<0\/(n≠f.s.loc/\n≠f.s.loc-1)\/(i≠f.s.rem+1/\(i≠f.s.rem\/f.s.rem≠f.s.ack+1)))->az T .eql bD (.int .i64 (if n<0\/n≠f.s.loc/\n≠f.s.loc-1 then 90 else if i≠f.s.rem+1/\(i≠f.s.rem\/f.s.rem≠f.s.ack+1) then 90 else 0)) (.int .i64 0)=some (.bool true):=by
        intro h
        rw[if_neg (by omega),if_neg (by omega)];rfl
       have bad:(n<0\/(n≠f.s.loc/\n≠f.s.loc-1)\/(i≠f.s.rem+1/\i≠f.s.rem))->J115 (.bool true) G78:=by
        intro h
        simp -zeta only [J115]
        rw[aN]
        refine ae (b115 (by omega)) ?_
        rfl
       have lK:¬ (n<0\/(n≠f.s.loc/\n≠f.s.loc-1)\/(i≠f.s.rem+1/\i≠f.s.rem))->J115 (.bool false) G78:=by
        intro h
        simp -zeta only [J115]
        rw[aK]
        refine ae (St.mn hgl ho hl) ?_
        rw[bB,aa,aI]
        refine⟨fun h1=>?_,fun h1=>?_⟩
        ·refine ae (St.mn hgl ho hl) ?_
         refine ae (St.mS hgl ho hl) ?_
         rw[bB,aa,aI]
         refine⟨fun h2=>?_,fun h2=>?_⟩
         ·refine ae (b115 (by omega)) ?_
          rfl
         ·refine ae (g115 (by omega)) ?_
          rfl
        ·refine ae (g115 (by omega)) ?_
         rfl
       rw[aM,aa,aI]
       refine⟨fun h2=>bad (.inl h2),fun h2=>?_⟩
       refine ae (St.qb hgl ho hl) ?_
       rw[b7,i64_in (by omega) (by omega),aa,aM,aa,aI]
       refine⟨fun h3=>bad (by omega),fun h3=>?_⟩
       refine ae (St.mn hgl ho hl) ?_
       rw[aM,aa,aI]
       refine⟨fun h4=>bad (by omega),fun h4=>?_⟩
       refine ae (St.mn hgl ho hl) ?_
       rw[bg,i64_in (by omega) (by omega),aa,da,aa]
       by_cases h5:f.s.rem+1<i
       ·rw[dT_ h5]
        exact bad (by omega)
       ·rw[dF_ h5]
        exact lK (by omega)
     refine ae (hq s78.ch) ?_
     refine ae (bM lp (au.own (i:=6) s78 rfl)) ?_
     refine ae (qg ab5 lp) ?_
     rw[dC]
     refine⟨fun h1=>?_,fun _=>main⟩
     rw[fI,aa,aI]
     refine⟨fun h2=>?_,fun _=>main⟩
     rw[acJ (acH h2 (.inl (by rw[<- hp];exact h1)))]
     exact main
    rw[aI]
    refine⟨fun h1=>?_,fun h1=>?_⟩
    ·refine ae (v:=.agg (h0.map u8v)) rfl ?_
     refine sq (i:=0) s51 rfl hxl rfl fun G58 s58=>?_
     refine p123 true h0 G58 s58 (by simp[acC,h1]) ?_ rfl
     unfold acF
     rw[if_pos h1]
    ·refine p123 b X.1 G51 s51 (hb (by omega)) ?_ hxl
     unfold acF
     rw[if_neg h1,hX (by omega)]
   rw[kQ,aa,aI]
   refine⟨fun h1=>?_,fun h1=>?_⟩
   ·rw[bB,aa]
    refine p124 _ fun h2=>?_
    rw[decide_eq_true_eq,hX h2]
    unfold acC
    constructor
    ·intro h;exact .inr ⟨h1,h⟩
    ·rintro (h|h)
     ·omega
     ·exact h.2
   ·refine p124 false fun h2=>?_
    unfold acC
    constructor
    ·intro h;cases h
    ·rintro (h|h)
     ·omega
     ·exact absurd h.1 h1
  have loop:∀ (m j:Nat) (G15:ak),m+j=l.length->Sp [] G [jP tb (acI t0 (l.take j)),au i3 (.agg (q.map u8v)),au i1 d.av] G15->R14 [ops,.int .i64 n,.int .i64 i,.ptr i3 [] 0,.ptr tb [] 0,.int .i64 (j:Nat)] G15:=by
   intro m
   induction m with
   | zero=>
    intro j G15 hj S15
    obtain rfl:j=l.length:=by omega
    exact hend _ G15 ((acK k0 f0 fun o ho=>hok o (List.mem_of_mem_take ho)).1.more (by omega)) S15
   | succ m ih=>
    intro j G15 hj S15
    obtain⟨o,ho⟩:∃ o,l[j]?=some o:=⟨_,List.getElem?_eq_getElem (by omega)⟩
    have hoo:=hok o (List.mem_of_getElem? ho)
    have k:=(acK (l:=l.take j) k0 f0 fun o ho=>hok o (List.mem_of_mem_take ho)).1
    refine hR _ _ _ _ _ _ _ ?_
    refine ae (GA (hro.cap.gZ.ch' S15.ch)) ?_
    rw[aM,aa,dT_ (by omega),aN]
    obtain⟨a,a1,a2⟩:=Lt (hro.cap.gZ.ch' S15.ch) ho
    refine ae a1 ?_
    refine ae a2 ?_
    refine S15.call (i:=0) rfl (jP tb (acI t0 (l.take (j+1)))) fun F1 h1 kk=>?_
    refine acp.use h1 k (by omega) hoo fun F2 G27 h2 c2=>?_
    rw[<- ac1 ho]at h2
    rw[bg,i64_in (by omega) (by omega),aa]
    exact ih (j+1) G27 (by omega) (kk F2 G27 h2 c2)
  exact loop l.length 0 G10 (by omega) s10
end Go.Esc.M
