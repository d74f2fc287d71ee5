import Derived.Test.YtkojimdacnohpaaGreatDoorLWm
set_option maxHeartbeats 1000000
set_option linter.unusedSimpArgs false
set_option linter.unusedVariables false
set_option maxRecDepth 20000
namespace Go.Esc.M
open Go Go.Esc
section
variable {F0:List AId}{G0 G:ak}{ps:List LP}{Q:ah->ak->Prop}
theorem dg.same {r:RcM}{v w:ah}{l:List aL}(hr:r.ok) (hv:ff 36 G v (l.map aL.av)) (lv:bw v) (hw:ff 36 G w (l.map aL.av)) (lw:bw w) (okl:∀ u∈l,u.ok) (hll:l.length≤1000000000)
  (hQ:∀ G',Ch [] G [] G'->Q (.bool true) G'):al P dg.n [r.av v,r.av w] G Q:=by
 refine dg.sound ?_
 unfold dg.S
 intro i1 f1
 have s1:=(Sp.nil G).row f1 (r.av v)
 intro i3 f3
 have s3:=s1.row f3 (r.av w)
 revert s3
 generalize ak.upd _ i3 _=G4
 intro s3
 have g1:=au.own (i:=1) s3 rfl
 have g2:=au.own (i:=0) s3 rfl
 refine ae (Rc.sj g1 hr lv) ?_
 refine ae (Rc.sj g2 hr lw) ?_
 rw[bB,aa,dT_ rfl,aN]
 refine ae (Rc.Al g1 hr lv) ?_
 refine ae (Rc.Al g2 hr lw) ?_
 refine ae (Bs hr.upd hr.upd) ?_
 rw[dT_ rfl,aN]
 refine ae (Rc.za g1 hr lv) ?_
 refine ae (Rc.za g2 hr lw) ?_
 refine bV.use (hv.ch' s3.ch) (hw.ch' s3.ch) okl okl hll hll ?_
 rw[dT_ rfl,aN]
 refine ae (Rc.ni g1 hr lv) ?_
 refine ae (Rc.ni g2 hr lw) ?_
 rw[bB,aa,dT_ rfl,aN]
 refine ae (Rc.FE g1 hr lv) ?_
 refine ae (Rc.FE g2 hr lw) ?_
 refine ae (r6 (t:=aU) _ _ _ _) ?_
 rw[dT_ ⟨rfl,rfl⟩,aN]
 refine ae (Rc.xB g1 hr lv) ?_
 refine ae (Rc.xB g2 hr lw) ?_
 refine ae (uh hr.sig hr.sig) ?_
 rw[dT_ rfl,aN]
 refine ae (Rc.xC g1 hr lv) ?_
 refine ae (Rc.xC g2 hr lw) ?_
 refine ae (uh hr.secret hr.secret) ?_
 rw[dT_ rfl,aN]
 refine ae (Rc.An g1 hr lv) ?_
 refine ae (Rc.An g2 hr lw) ?_
 refine ae (uh hr.point hr.point) ?_
 rw[dT_ rfl,aN]
 refine ae (Rc.GU g1 hr lv) ?_
 refine ae (Rc.GU g2 hr lw) ?_
 rw[bB,aa,dT_ rfl]
 exact hQ _ s3.ch
theorem dP.use {r:RcM}{e:Int}{v w:ah}{l:List aL}(hr:r.ok) (hv:ff 36 G v (l.map aL.av)) (lv:bw v) (hw:ff 36 G w (l.map aL.av)) (lw:bw w) (okl:∀ u∈l,u.ok) (hll:l.length≤1000000000)
  (hQ:∀ G',Ch [] G [] G'->Q (.bool true) G'):al P dP.n [r.av v,.int .i64 e,r.av w,.int .i64 e] G Q:=by
 refine dP.sound ?_
 unfold dP.S
 intro i1 f1
 have s1:=(Sp.nil G).row f1 (r.av v)
 intro i3 f3
 have s3:=s1.row f3 (r.av w)
 revert s3
 generalize ak.upd _ i3 _=G4
 intro s3
 rw[bB,aa,dT_ rfl,aN]
 refine ae (Rc.ld (au.own (i:=1) s3 rfl) hr lv) ?_
 refine ae (Rc.ld (au.own (i:=0) s3 rfl) hr lw) ?_
 refine dg.same hr (hv.ch' s3.ch) lv (hw.ch' s3.ch) lw okl hll fun G9 c9=>?_
 exact hQ _ (s3.tmp c9).ch
theorem dA.use {f:StF}{c:CfM}{vo vp vh:ah}(hS:ka G f vo vp vh) (I:iY f) (hc:c.ok) (hQ:∀ G',Ch [] G [] G'->Q (.bool true) G'):al P dA.n [c.av,f.s.av vo vp vh] G Q:=by
 have ho:=hS.ok
 have hl:=hS.lv
 have bok:=xT (c:=c) ho
 obtain⟨B,hB⟩:∃ x,x=tI c f:=⟨_,rfl⟩
 rw[<- hB]at bok
 have rok:=ve hc ho.loc
 obtain⟨V,hV⟩:∃ x,x=qC c f.s.loc:=⟨_,rfl⟩
 rw[<- hV]at rok
 refine dA.sound ?_
 unfold dA.S
 intro i1 f1
 have s1:=(Sp.nil G).row f1 c.av
 intro i3 f3
 have s3:=s1.row f3 (f.s.av vo vp vh)
 revert s3
 generalize ak.upd _ i3 _=G4
 intro s3
 have cp:∀ {K:ah->ak->Prop}{qs:List LP}{G1:ak},Sp [] G (qs++[au i3 (f.s.av vo vp vh),au i1 c.av]) G1->(∀ wo wp wh G2,Ch [] G1 [] G2->ka G2 f wo wp wh->Sp [] G (qs++[au i3 (f.s.av vo vp vh),au i1 c.av]) G2->K (f.s.av wo wp wh) G2)->al P bP.n [f.s.av vo vp vh] G1 K:=by
  intro K qs G1 s hK
  refine bP.use (hS.mv s.ch) fun wo wp wh G2 t2=>?_
  exact hK wo wp wh G2 t2.ch (ka.copy (i:=2) (j:=1) (k:=0) (hS.mv s.ch) t2 rfl rfl rfl) (s.tmp t2.ch)
 have st0:∀ {G1:ak},Sp [] G [au i3 (f.s.av vo vp vh),au i1 c.av] G1->ag T G1 aE (.ptr i3 [] 0)=some (f.s.av vo vp vh):=fun s=>St.ld (au.own (i:=0) s rfl) ho hl
 have cf0:∀ {G1:ak},Sp [] G [au i3 (f.s.av vo vp vh),au i1 c.av] G1->ag T G1 bU (.ptr i1 [] 0)=some c.av:=fun s=>Cf.ld (au.own (i:=1) s rfl) hc
 have st1:∀ {i:AId}{G1:ak},Sp [] G ([au i B.av]++[au i3 (f.s.av vo vp vh),au i1 c.av]) G1->ag T G1 aE (.ptr i3 [] 0)=some (f.s.av vo vp vh):=fun s=>St.ld (au.own (i:=1) s rfl) ho hl
 have cf1:∀ {i:AId}{G1:ak},Sp [] G ([au i B.av]++[au i3 (f.s.av vo vp vh),au i1 c.av]) G1->ag T G1 bU (.ptr i1 [] 0)=some c.av:=fun s=>Cf.ld (au.own (i:=2) s rfl) hc
 refine ae (cf0 s3) ?_
 refine ae (st0 s3) ?_
 refine cp (qs:=[]) s3 fun wo wp wh G8 c8 hS8 s8=>?_
 refine⟨⟨cf0 s8,trivial⟩,?_⟩
 refine jC.use hS8 hc fun G10 c10=>?_
 rw[<- hB]
 have s10:=s8.tmp c10
 refine Kz s10 bok fun i11 G13 s13=>?_
 have s13:Sp [] G ([au i11 B.av]++[au i3 (f.s.av vo vp vh),au i1 c.av]) G13:=s13
 refine ae (st1 s13) ?_
 refine ae (st1 s13) ?_
 refine cp s13 fun wo wp wh G17 c17 hS17 s17=>?_
 refine⟨⟨st1 s17,trivial⟩,?_⟩
 refine fQ.use hS17 fun G19 c19=>?_
 have s19:=s17.tmp c19
 refine⟨⟨st1 s19,trivial⟩,?_⟩
 refine cg.use (hS.mv s19.ch) fun G21 c21=>?_
 have s21:=s19.tmp c21
 refine ae (r6 (t:=aU) _ _ _ _) ?_
 rw[dT_ ⟨rfl,rfl⟩,aN]
 refine ae (st1 s21) ?_
 refine ae (st1 s21) ?_
 refine cp s21 fun wo wp wh G26 c26 hS26 s26=>?_
 refine⟨⟨st1 s26,trivial⟩,?_⟩
 refine eG.use hS26 fun G28 c28=>?_
 have s28:=s26.tmp c28
 refine⟨⟨st1 s28,trivial⟩,?_⟩
 refine cO.use (hS.mv s28.ch) I fun G30 c30=>?_
 have s30:=s28.tmp c30
 rw[bB,aa,dT_ rfl,aN]
 refine ae (st1 s30) ?_
 refine ae (st1 s30) ?_
 refine cp s30 fun wo wp wh G35 c35 hS35 s35=>?_
 refine⟨⟨st1 s35,trivial⟩,?_⟩
 refine cR.use hS35 fun G37 c37=>?_
 have s37:=s35.tmp c37
 refine⟨⟨st1 s37,trivial⟩,?_⟩
 refine b5.use (hS.mv s37.ch) I fun G39 c39=>?_
 have s39:=s37.tmp c39
 rw[bB,aa,dT_ rfl,aN]
 refine ae (cj eQ (au.own (i:=0) s39 rfl) (cr.fits bok)) ?_
 refine ae (cf1 s39) ?_
 refine ae (st1 s39) ?_
 refine ef.use (hS.mv s39.ch) I hc fun G45 c45=>?_
 rw[<- hB]
 have s45:=s39.tmp c45
 refine⟨⟨cj eQ (au.own (i:=0) s45 rfl) (cr.fits bok),trivial⟩,?_⟩
 refine ae (Bt bok bok) ?_
 rw[dT_ rfl,aN]
 refine ae (st1 s45) ?_
 refine ae (st1 s45) ?_
 refine cp s45 fun wo wp wh G50 c50 hS50 s50=>?_
 refine⟨⟨st1 s50,trivial⟩,?_⟩
 refine kH.use hS50 fun xo xp xh G52 t52=>?_
 have s52:=u9 s50 t52
 refine⟨⟨St.ld (au.own (i:=4) s52 rfl) ho hl,trivial⟩,?_⟩
 refine fL.use (hS.mv s52.ch) fun yo yp yh G54 t54=>?_
 have s54:=u9 s52 t54
 have hfp:(cw f.p f.s.atB).length≤f.p.length:=by unfold cw;rw[List.length_take];omega
 have hS':ka G54 ⟨f.s,f.o,cw f.p f.s.atB,f.h⟩ yo yp yh:=
  ⟨ho,Own.nj (bm.own (i:=2) s54 rfl),Own.nj (bm.own (i:=1) s54 rfl),Own.nj (bm.own (i:=0) s54 rfl),hS.oko,fun u hu=>hS.okp u (List.mem_of_mem_take hu),hS.okh,hS.lo,by have:=hS.lp;show (cw f.p f.s.atB).length≤_;omega,hS.lh⟩
 have hS'':ka G54 ⟨f.s,f.o,cw f.p f.s.atB,f.h⟩ xo xp xh:=
  ⟨ho,Own.nj (bm.own (i:=5) s54 rfl),Own.nj (bm.own (i:=4) s54 rfl),Own.nj (bm.own (i:=3) s54 rfl),hS.oko,fun u hu=>hS.okp u (List.mem_of_mem_take hu),hS.okh,hS.lo,by have:=hS.lp;show (cw f.p f.s.atB).length≤_;omega,hS.lh⟩
 refine cP.same (f:=⟨f.s,f.o,cw f.p f.s.atB,f.h⟩) hS'' hS' fun G56 c56=>?_
 rw[aN]
 have s56:=s54.tmp c56
 refine ae (Cf.ld (au.own (i:=8) s56 rfl) hc) ?_
 refine ae (St.qb (au.own (i:=7) s56 rfl) ho hl) ?_
 refine ae (Cf.ld (au.own (i:=8) s56 rfl) hc) ?_
 refine ae (St.qb (au.own (i:=7) s56 rfl) ho hl) ?_
 refine iU.use hc fun G62 c62=>?_
 rw[<- hV]
 have s62:=s56.tmp c62
 refine⟨⟨St.qb (au.own (i:=7) s62 rfl) ho hl,Cf.ld (au.own (i:=8) s62 rfl) hc,trivial⟩,?_⟩
 refine dF.use hc fun G64 c64=>?_
 rw[<- hV]
 refine ae (Bt rok rok) ?_
 rw[dT_ rfl]
 exact hQ _ (s62.tmp c64).ch
end
end Go.Esc.M
namespace Go.Esc.M
open Go Go.Esc
section
variable {F0:List AId}{G0 G:ak}{ps:List LP}{Q:ah->ak->Prop}{tb:AId}{t:me}{l:Bool->Ls}{w:Bool->ah}
theorem cV.use {F:List AId}{n:Nat}{s:Bool}{m:cr}(hT:Tab G) (h:(jP tb t).p G F) (k:kK t n) (hn:n≤99999999) (hm:m.ok)
  (hQ:∀ F' G',(jP tb (sD t s m).1).p G' F'->Ch F G F' G'->Q (.bool true) G'):al P cV.n [.ptr tb [] 0,.int .i64 (bI s),m.av] G Q:=by
 refine cV.sound ?_
 unfold cV.S
 obtain⟨l,w,a⟩:=jP.at_ h
 have I:=k.f s
 have hlo:=I.lo
 have hlp:=I.lp
 have hso:=I.ok
 have hl:bw (l s).o/\bw (l s).p/\bw (l s).h:=a.lv s
 have hS:=a.IV k s
 intro i1 f1
 have s1:=(Sp.nil G).row f1 m.av
 refine ae jm ?_
 refine ae qO ?_
 refine ae (qM s) ?_
 refine ae ((a.mv s1.ch).ldS k s) ?_
 refine St.nw s1 hso hl fun i7 G9 s9=>?_
 have s9:Sp [] G [au i7 ((t.f s).s.av (l s).o (l s).p (l s).h),au i1 m.av] G9:=s9
 have a9:=a.mv s9.ch
 have same:∀ {t':me}{G2:ak}{ps:List LP},Sp F G (jP tb t'::ps) G2->∃ F',(jP tb t').p G2 F'/\Ch F G F' G2:=by
  intro t' G2 ps sp
  have s4:Sp F G [jP tb t'] G2:=sp.take 1
  exact s4.out
 have hg:=gx (i:=1) s9 rfl hm
 refine ae hg.1 ?_
 rw[bB,aa]
 intro J52
 have h1:(m.kind=1\/m.kind=2\/m.kind=3)->J52 (.bool true) G9:=by
  intro hk
  unfold sD at hQ
  rw[if_pos hk]at hQ
  have hu:=vF hm
  obtain⟨u,hue⟩:∃ u,Bw m=u:=⟨_,rfl⟩
  rw[hue]at hu hQ
  simp -zeta only [J52,aN]
  refine ae (St.ld (au.own (i:=0) s9 rfl) hso hl) ?_
  refine ae (gx (i:=1) s9 rfl hm).2.2.2.2.2.2.2.2 ?_
  refine bP.use (hS.mv s9.ch) fun wo wp wh G21 t21=>?_
  have s21:Sp [] G [bm 34 wh ((t.f s).h.map b6.av),bm 36 wp ((t.f s).p.map aL.av),bm 36 wo ((t.f s).o.map aL.av),au i7 ((t.f s).s.av (l s).o (l s).p (l s).h),au i1 m.av] G21:=u9 s9 t21
  refine⟨⟨(gx (i:=4) s21 rfl hm).2.2.2.2.2.2.2.2,trivial⟩,?_⟩
  refine dd.use hm fun G23 c23=>?_
  rw[hue]
  have s23:=s21.tmp c23
  refine jA.use (ka.copy (i:=2) (j:=1) (k:=0) hS s23 rfl rfl rfl) hu fun G25 c25=>?_
  have s25:=s23.tmp c25
  refine ae (St.ld (au.own (i:=3) s25 rfl) hso hl) ?_
  refine ae (gx (i:=4) s25 rfl hm).2.2.2.2.2.2.2.2 ?_
  refine dd.use hm fun G29 c29=>?_
  rw[hue]
  have s29:=s25.tmp c29
  refine⟨⟨St.ld (au.own (i:=3) s29 rfl) hso hl,trivial⟩,?_⟩
  refine fj.use (hS.mv s29.ch) I hu fun G31 c31=>?_
  have s31:=s29.tmp c31
  rw[bB,aa,aI]
  refine⟨fun h0=>?_,fun h0=>?_⟩
  ·rw[if_pos h0]at hQ
   have hS31:=hS.mv s31.ch
   refine ae (St.eH (au.own (i:=3) s31 rfl) hso hl) ?_
   refine ae (gx (i:=4) s31 rfl hm).2.2.2.2.2.2.2.2 ?_
   refine ae jm ?_
   refine ae qO ?_
   refine Jz s31 hS31.p.gZ I.okp (by omega) fun v37 G38 s38=>?_
   refine⟨⟨(gx (i:=5) s38 rfl hm).2.2.2.2.2.2.2.2,trivial⟩,?_⟩
   refine dd.use hm fun G40 c40=>?_
   rw[hue]
   have s40:=s38.tmp c40
   refine Jy (i:=0) s40 rfl hu (by omega) fun v43 G44 s44=>?_
   refine ae (qM s) ?_
   refine ae (Hx s) ?_
   have S44:Sp F G [jP tb t,bm 36 v43 (((t.f s).p++[u]).map aL.av)] G44:=(Sp.with h s44).take 2
   refine IG S44 k fun G47 S47=>?_
   rw[bB,aa,dT_ rfl]
   obtain⟨F',q1,q2⟩:=S47.out
   exact hQ F' G47 q1 q2
  ·rw[if_neg h0]at hQ
   rw[bB,aa,dT_ rfl]
   obtain⟨F',q1,q2⟩:=same (Sp.with h s31)
   exact hQ F' G31 q1 q2
 have put:∀ {G2:ak}{ps:List LP}{r:RcM}{lu:List aL}{v:ah}{f':StF}{K:ah->ak->Prop},Sp F G (jP tb t::ps) G2->r.ok->bw v->ff 36 G2 v (lu.map aL.av)->(∀ u∈lu,u.ok)->lu.length≤4096->Bb (t.f s) r lu f'->iY f' ->
   (∀ F' G',(jP tb (uD t s r f')).p G' F'->Ch F G F' G'->K (.tuple []) G')->al P b9.n [.ptr tb [] 0,.int .i64 (bI s),r.av v] G2 K:=by
  intro G2 ps r lu v f' K sp hr hv hlu ok1 hll ap I' hK
  have sp1:Sp F G [jP tb t] G2:=sp.take 1
  refine sp1.call (i:=0) rfl (jP tb (uD t s r f')) fun F1 h1 kk=>?_
  refine b9.use h1 k hn hr hv hlu ok1 hll ap I' fun F2 G3 h2 c2=>?_
  obtain⟨F',q1,q2⟩:=(kk F2 G3 h2 c2).out
  exact hK F' G3 q1 q2
 have h2:¬ (m.kind=1\/m.kind=2\/m.kind=3)->J52 (.bool false) G9:=by
  intro hk
  unfold sD at hQ
  rw[if_neg hk]at hQ
  simp -zeta only [J52,aK]
  have hco:(mU (t.c s) (t.f s) m).r.ok:=by
   by_cases h0:(mU (t.c s) (t.f s) m).e=0
   ·obtain⟨e,h2,_⟩:=I.came (c:=t.c s) hm h0
    rw[e];exact h2
   ·rw[(Hf h0).1];exact zok
  have hlc:(∀ u∈(mU (t.c s) (t.f s) m).l,u.ok)/\(mU (t.c s) (t.f s) m).l.length≤4096:=by
   by_cases h0:(mU (t.c s) (t.f s) m).e=0
   ·obtain⟨e,_⟩:=I.came (c:=t.c s) hm h0
    rw[e]
    exact⟨fun u hu=>I.okp u (List.mem_of_mem_drop hu),by show (List.drop _ (t.f s).p).length≤4096;rw[List.length_drop];omega⟩
   ·rw[(Hf h0).2];exact⟨fun u hu=>(by cases hu),by simp⟩
  have hcc:=fun h0=>I.came (c:=t.c s) hm h0
  have hro:(jR (t.f s) m).1.ok:=by
   by_cases h0:(jR (t.f s) m).2=0
   ·obtain⟨e,h2,_⟩:=I.y8 hm h0
    rw[e];exact h2
   ·rw[Fq h0];exact zok
  have hap:(jR (t.f s) m).2=0->m.kind=5/\iY (uQ (t.f s) (jR (t.f s) m).1)/\Bb (t.f s) (jR (t.f s) m).1 [] (uQ (t.f s) (jR (t.f s) m).1):=by
   intro h0
   obtain⟨e,h2,h3,h4,h5,_⟩:=I.y8 hm h0
   rw[e];exact⟨h5,h3,h4⟩
  obtain⟨X,hX⟩:∃ x,mU (t.c s) (t.f s) m=x:=⟨_,rfl⟩
  obtain⟨Y,hY⟩:∃ x,jR (t.f s) m=x:=⟨_,rfl⟩
  rw[hX]at hQ hco hcc hlc
  rw[hY]at hQ hro hap
  refine ae jm ?_
  refine ae qP ?_
  refine ae (qN s) ?_
  refine ae (a9.ldC k s) ?_
  refine ae (St.ld (au.own (i:=0) s9 rfl) hso hl) ?_
  refine ae (gx (i:=1) s9 rfl hm).2.2.2.2.2.2.2.2 ?_
  refine bP.use (hS.mv s9.ch) fun wo wp wh G60 t60=>?_
  have s60:=s9.tmp t60.ch
  have hC60:=ka.copy (i:=2) (j:=1) (k:=0) (hS.mv s9.ch) t60 rfl rfl rfl
  have s60:Sp [] G [au i7 ((t.f s).s.av (l s).o (l s).p (l s).h),au i1 m.av] G60:=s60
  refine⟨⟨(gx (i:=1) s60 rfl hm).2.2.2.2.2.2.2.2,(a.mv s60.ch).ldC k s,trivial⟩,?_⟩
  refine jB.use hC60 (k.c s) hm fun v61 G62 t62=>?_
  rw[hX]at t62 ⊢
  have s62:Sp [] G [bm 36 v61 (X.l.map aL.av),au i7 ((t.f s).s.av (l s).o (l s).p (l s).h),au i1 m.av] G62:=u9 s60 t62
  have l61:=(bm.own (i:=0) s62 rfl).leaf
  refine ae (tv0 _ _) ?_
  refine ae (tv1 _ _) ?_
  refine Rc.nw s62 hco l61 fun i65 G67 s67=>?_
  have a67:=a.mv s67.ch
  refine ae jm ?_
  refine ae qP ?_
  refine ae (qN s) ?_
  refine ae (a67.ldC k s) ?_
  refine ae (St.ld (au.own (i:=2) s67 rfl) hso hl) ?_
  refine ae (gx (i:=3) s67 rfl hm).2.2.2.2.2.2.2.2 ?_
  refine gb.use (hS.mv s67.ch) I (k.c s) hm fun v74 G75 t75=>?_
  rw[hX]at t75 ⊢
  have s75:Sp [] G [bm 36 v74 (X.l.map aL.av),au i65 (X.r.av v61),bm 36 v61 (X.l.map aL.av),au i7 ((t.f s).s.av (l s).o (l s).p (l s).h),au i1 m.av] G75:=u9 s67 t75
  have l74:=(bm.own (i:=0) s75 rfl).leaf
  refine ae (tv0 _ _) ?_
  refine ae (tv1 _ _) ?_
  refine Rc.nw s75 hco l74 fun i78 G80 s80=>?_
  have s80:Sp [] G [au i78 (X.r.av v74),bm 36 v74 (X.l.map aL.av),au i65 (X.r.av v61),bm 36 v61 (X.l.map aL.av),au i7 ((t.f s).s.av (l s).o (l s).p (l s).h),au i1 m.av] G80:=s80
  refine ae (St.ld (au.own (i:=4) s80 rfl) hso hl) ?_
  refine ae (gx (i:=5) s80 rfl hm).2.2.2.2.2.2.2.2 ?_
  refine bP.use (hS.mv s80.ch) fun xo xp xh G84 t84=>?_
  have s84:=s80.tmp t84.ch
  have hC84:=ka.copy (i:=2) (j:=1) (k:=0) (hS.mv s80.ch) t84 rfl rfl rfl
  refine⟨⟨(gx (i:=5) s84 rfl hm).2.2.2.2.2.2.2.2,trivial⟩,?_⟩
  refine gL.use (hT.mono s84.ro) hC84 hm fun G86 c86=>?_
  rw[hY]
  have s86:=s84.tmp c86
  refine ae (tr0 _) ?_
  refine ae (tr1 _) ?_
  refine Rc.nw s86 hro bw.nil fun i89 G91 s91=>?_
  refine ae (St.ld (au.own (i:=5) s91 rfl) hso hl) ?_
  refine ae (gx (i:=6) s91 rfl hm).2.2.2.2.2.2.2.2 ?_
  refine dW.use (hS.mv s91.ch) I hm fun G95 c95=>?_
  rw[hY]
  have s95:=s91.tmp c95
  refine ae (tr0 _) ?_
  refine ae (tr1 _) ?_
  refine Rc.nw s95 hro bw.nil fun i98 G100 s100=>?_
  have s100:Sp [] G [au i98 (Y.1.av .nilSlice),au i89 (Y.1.av .nilSlice),au i78 (X.r.av v74),bm 36 v74 (X.l.map aL.av),au i65 (X.r.av v61),bm 36 v61 (X.l.map aL.av),au i7 ((t.f s).s.av (l s).o (l s).p (l s).h),au i1 m.av] G100:=s100
  intro J133
  have p133:∀ G111,Sp [] G [au i98 (Y.1.av .nilSlice),au i89 (Y.1.av .nilSlice),au i78 (X.r.av v74),bm 36 v74 (X.l.map aL.av),au i65 (X.r.av v61),bm 36 v61 (X.l.map aL.av),au i7 ((t.f s).s.av (l s).o (l s).p (l s).h),au i1 m.av] G111->J133 (.bool false) G111:=by
   intro G111 s111
   simp -zeta only [J133,aK]
   rw[bB,aa,aI]
   refine⟨fun h0=>?_,fun h0=>?_⟩
   ·rw[if_pos h0]at hQ
    obtain⟨e,c2,c3,c4,c5,_⟩:=hcc h0
    have hy:¬ Y.2=0:=fun h=>by have:=(hap h).1;omega
    refine ae (Rc.ld (au.own (i:=2) s111 rfl) hco l74) ?_
    subst e
    refine put (Sp.with h s111) c2 l74 (bm.own (i:=3) s111 rfl).is hlc.1 hlc.2 c4 c3 fun F' G' q1 q2=>?_
    rw[bB,aa,dF_ hy,aK]
    exact hQ F' G' q1 q2
   ·rw[if_neg h0]at hQ
    rw[bB,aa,aI]
    refine⟨fun h1=>?_,fun h1=>?_⟩
    ·rw[if_pos h1]at hQ
     refine ae (Rc.ld (au.own (i:=0) s111 rfl) hro bw.nil) ?_
     refine put (lu:=[]) (Sp.with h s111) hro bw.nil (.inr ⟨rfl,rfl⟩) (fun u hu=>by cases hu) (by simp) (hap h1).2.2 (hap h1).2.1 fun F' G' q1 q2=>?_
     exact hQ F' G' q1 q2
    ·rw[if_neg h1]at hQ
     obtain⟨F',q1,q2⟩:=same (Sp.with h s111)
     exact hQ F' G111 q1 q2
  refine ae (Rc.ld (au.own (i:=4) s100 rfl) hco l61) ?_
  refine ae (Rc.ld (au.own (i:=2) s100 rfl) hco l74) ?_
  refine dP.use hco (bm.own (i:=5) s100 rfl).is l61 (bm.own (i:=3) s100 rfl).is l74 hlc.1 (by have:=hlc.2;omega) fun G104 c104=>?_
  rw[dx,aa,Bool.not_true,aK]
  have s104:=s100.tmp c104
  refine ae (Rc.ld (au.own (i:=1) s104 rfl) hro bw.nil) ?_
  refine ae (Rc.ld (au.own (i:=0) s104 rfl) hro bw.nil) ?_
  refine dP.use (l:=[]) hro (.inr ⟨rfl,rfl⟩) bw.nil (.inr ⟨rfl,rfl⟩) bw.nil (fun u hu=>by cases hu) (by simp) fun G109 c109=>?_
  rw[dx,aa,Bool.not_true]
  exact p133 G109 (s104.tmp c109)
 rw[aI]
 refine⟨fun e=>?_,fun e1=>?_⟩
 ·have:=h1 (.inl e)
  rw[dT_ e]
  exact this
 rw[bB,aa,aI]
 refine⟨fun e=>?_,fun e2=>?_⟩
 ·have:=h1 (.inr (.inl e))
  rw[dT_ e]
  exact this
 rw[bB,aa]
 by_cases e3:m.kind=3
 ·rw[dT_ e3]
  exact h1 (.inr (.inr e3))
 ·rw[dF_ e3]
  exact h2 (by rintro (h | h | h);exact e1 h;exact e2 h;exact e3 h)
end
end Go.Esc.M
namespace Go.Esc.M
open Go Go.Esc
def Cg (f:StF):StF:=⟨{ f.s with failed:=7 },f.o,f.p,f.h⟩
def sC (t:me) (o:jj):me:=
 if o.kind=5 then match t.q o.side with
  | []=>t
  | m::ms=>(sD (oW t o.side ms) o.side (yE m o)).1
 else if o.kind=6 then kq t o.side (Cg (t.f o.side))
 else if (lD (t.f o.side) o).2=0 then uD t o.side (lD (t.f o.side) o).1 (tF (t.f o.side) o) else t
theorem H5 {t:me}{n:Nat}(k:kK t n) {o:jj}(ho:o.ok):kK (sC t o) (n+1):=by
 unfold sC
 split
 ·have hq:=k.q o.side
  have hn:=k.n o.side
  split
  ·exact k.more (by omega)
  ·rename_i m ms e
   rw[e]at hq hn
   refine H6 (vD k (Nat.le_refl n) (fun x hx=>hq x (List.mem_cons_of_mem _ hx)) ?_) (wE (hq m (by simp)) ho)
   simp only[List.length_cons]at hn
   omega
 split
 ·exact (sT k ((k.f o.side).fail (iu 7 (by decide) (by decide)))).more (by omega)
 split
 ·rename_i h
  exact CR k (EA (k.f o.side) ho) ((k.f o.side).tF ho h).1
 ·exact k.more (by omega)
section
variable {F0:List AId}{G0 G:ak}{ps:List LP}{Q:ah->ak->Prop}{tb:AId}{t:me}{l:Bool->Ls}{w:Bool->ah}
theorem Fb (s:Bool):bt T aE (aS tb s) 16=some (.ptr tb [1,bN s,16] (328+(bN s*115+113))):=by cases s<;>rfl
theorem IH {n:Nat}{s:Bool}{K:ak->Prop}(h:Sp F0 G0 [jP tb t] G) (k:kK t n)
  (hK:∀ G',Sp F0 G0 [jP tb (kq t s (Cg (t.f s)))] G'->K G'):wg (aF T G ay (.ptr tb [1,bN s,16] (328+(bN s*115+113))) (.int .i64 7)) K:=by
 obtain⟨l,w,h2⟩:=Sp.BS h
 have a:=Sp.DQ h2
 cases s
 ·refine fg (st3 (u:=.int .i64 (t.f false).s.failed) a.g (a.szl k) rfl rfl (a.szS k) rfl rfl (StM.szl (k.f false).ok (a.lv false)) rfl rfl rfl iD rfl rfl rfl) (hK _ ?_)
  have h3:=Sp.setRow (j:=0) h2 rfl (oU (kq t false (Cg (t.f false))) l w)
  exact Sp.qW (ps:=[]) (t:=kq t false (Cg (t.f false))) (l:=l) (w:=w) h3
 ·refine fg (st3 (u:=.int .i64 (t.f true).s.failed) a.g (a.szl k) rfl rfl (a.szS k) rfl rfl (StM.szl (k.f true).ok (a.lv true)) rfl rfl rfl iD rfl rfl rfl) (hK _ ?_)
  have h3:=Sp.setRow (j:=0) h2 rfl (oU (kq t true (Cg (t.f true))) l w)
  exact Sp.qW (ps:=[]) (t:=kq t true (Cg (t.f true))) (l:=l) (w:=w) h3
theorem de.use {F:List AId}{n:Nat}{o:jj}(hT:Tab G) (h:(jP tb t).p G F) (k:kK t n) (hn:n≤99999999) (ho:o.ok)
  (hQ:∀ F' G',(jP tb (sC t o)).p G' F'->Ch F G F' G'->Q (.bool true) G'):al P de.n [.ptr tb [] 0,o.av] G Q:=by
 refine de.sound ?_
 unfold de.S
 obtain⟨l,w,a⟩:=jP.at_ h
 have I:=k.f o.side
 have hso:=I.ok
 have hl:bw (l o.side).o/\bw (l o.side).p/\bw (l o.side).h:=a.lv o.side
 have hS:=a.IV k o.side
 have hc:=k.c o.side
 intro i1 f1
 have s1:=(Sp.nil G).row f1 o.av
 revert s1
 generalize ak.upd _ i1 _=G2
 intro s1
 have same:∀ {t':me}{G2:ak}{ps:List LP},Sp F G (jP tb t'::ps) G2->∃ F',(jP tb t').p G2 F'/\Ch F G F' G2:=by
  intro t' G2 ps sp
  have s4:Sp F G [jP tb t'] G2:=sp.take 1
  exact s4.out
 refine ae (Oq.lJ (au.own (i:=0) s1 rfl) ho) ?_
 intro J150
 have go:J150 (.int .i64 (bI o.side)) G2:=by
  simp -zeta only [J150]
  refine ae jm ?_
  refine ae qO ?_
  refine ae (qM _) ?_
  refine ae ((a.mv s1.ch).ldS k _) ?_
  refine St.nw s1 hso hl fun i10 G12 s12=>?_
  refine ae jm ?_
  refine ae qP ?_
  refine ae (qN _) ?_
  refine ae ((a.mv s12.ch).ldC k _) ?_
  refine ae (St.ld (au.own (i:=0) s12 rfl) hso hl) ?_
  refine dA.use (hS.mv s12.ch) I hc fun G19 c19=>?_
  have s19:=s12.tmp c19
  have s19:Sp [] G [au i10 ((t.f o.side).s.av (l o.side).o (l o.side).p (l o.side).h),au i1 o.av] G19:=s19
  rw[dx,aa,Bool.not_true,aK,uU]
  intro i21 f21
  have s21:=s19.row f21 (RcM.zero.av .nilSlice)
  intro i23 f23
  have s23:=s21.row f23 (RcM.zero.av .nilSlice)
  revert s23
  generalize ak.upd _ i23 _=G24
  intro s24
  have s24:Sp [] G [au i23 (RcM.zero.av .nilSlice),au i21 (RcM.zero.av .nilSlice),au i10 ((t.f o.side).s.av (l o.side).o (l o.side).p (l o.side).h),au i1 o.av] G24:=s24
  refine ae (Oq.sj (au.own (i:=3) s24 rfl) ho) ?_
  have hcok:=EA I ho
  have hcf:=fun h0=>I.tF ho h0
  have hce:¬ (o.kind=1\/o.kind=2\/o.kind=3\/o.kind=4)->lD (t.f o.side) o=noR 1:=by
   intro hn
   unfold lD
   rw[if_neg (fun h=>hn (.inl h)),if_neg (fun h=>hn (.inr (.inl h))),if_neg (fun h=>hn (.inr (.inr (.inl h)))),if_neg (fun h=>hn (.inr (.inr (.inr h))))]
  have hc1:o.kind=1->n8 (t.f o.side) o.amount o.hash=lD (t.f o.side) o:=fun h=>by unfold lD;rw[if_pos h]
  have hc2:o.kind=2->j4 (t.f o.side) ⟨2,o.id,0,o.hash,[]⟩=lD (t.f o.side) o:=fun h=>by unfold lD;rw[if_neg (by omega),if_pos h]
  have hc3:o.kind=3->j4 (t.f o.side) ⟨3,o.id,0,h0,o.note⟩=lD (t.f o.side) o:=fun h=>by unfold lD;rw[if_neg (by omega),if_neg (by omega),if_pos h]
  have hc4:o.kind=4->p6 (t.f o.side)=lD (t.f o.side) o:=fun h=>by unfold lD;rw[if_neg (by omega),if_neg (by omega),if_neg (by omega),if_pos h]
  unfold sC at hQ
  obtain⟨X,hX⟩:∃ x,lD (t.f o.side) o=x:=⟨_,rfl⟩
  rw[hX]at hQ hcok hcf hce hc1 hc2 hc3 hc4
  intro J149
  have p149:∀ G136,(o.kind=1\/o.kind=2\/o.kind=3\/o.kind=4)->Sp [] G [au i23 (X.1.av .nilSlice),au i21 (X.1.av .nilSlice),au i10 ((t.f o.side).s.av (l o.side).o (l o.side).p (l o.side).h),au i1 o.av] G136->J149 (.int .i64 X.2) (.int .i64 X.2) G136:=by
   intro G136 hk s136
   rw[if_neg (by omega),if_neg (by omega)]at hQ
   simp -zeta only [J149]
   refine ae (Rc.ld (au.own (i:=1) s136 rfl) hcok bw.nil) ?_
   refine ae (Rc.ld (au.own (i:=0) s136 rfl) hcok bw.nil) ?_
   refine dP.use (l:=[]) hcok (.inr ⟨rfl,rfl⟩) bw.nil (.inr ⟨rfl,rfl⟩) bw.nil (fun u hu=>by cases hu) (by simp) fun G142 c142=>?_
   have s142:=s136.tmp c142
   rw[dx,aa,Bool.not_true,aK,bB,aa,aI]
   obtain⟨F1,h1,c1⟩:=same (Sp.with h s142)
   refine⟨fun h0=>?_,fun h0=>?_⟩
   ·rw[if_pos h0]at hQ
    refine ae (Rc.ld (au.own (i:=0) s142 rfl) hcok bw.nil) ?_
    refine b9.use (lu:=[]) h1 k hn hcok bw.nil (.inr ⟨rfl,rfl⟩) (fun u hu=>by cases hu) (by simp) (hcf h0).2 (hcf h0).1 fun F' G' q1 q2=>?_
    exact hQ F' G' q1 (c1.trans q2)
   ·rw[if_neg h0]at hQ
    exact hQ F1 G142 h1 c1
  have cp:∀ {K:ah->ak->Prop}{G1:ak}{ps:List LP},Sp [] G ps G1->(∀ wo wp wh G2,ka G2 (t.f o.side) wo wp wh->Sp [] G ps G2->K ((t.f o.side).s.av wo wp wh) G2)->al P bP.n [(t.f o.side).s.av (l o.side).o (l o.side).p (l o.side).h] G1 K:=by
   intro K G1 ps s hK
   refine bP.use (hS.mv s.ch) fun wo wp wh G2 t2=>?_
   exact hK wo wp wh G2 (ka.copy (i:=2) (j:=1) (k:=0) (hS.mv s.ch) t2 rfl rfl rfl) (s.tmp t2.ch)
  rw[bB,aa,aI]
  refine⟨fun hk=>?_,fun hk1=>?_⟩
  ·refine ae (St.ld (au.own (i:=2) s24 rfl) hso hl) ?_
   refine ae (Oq.xD (au.own (i:=3) s24 rfl) ho) ?_
   refine ae (Oq.sk (au.own (i:=3) s24 rfl) ho) ?_
   refine cp s24 fun wo wp wh G31 hC s31=>?_
   refine⟨⟨Oq.sk (au.own (i:=3) s31 rfl) ho,Oq.xD (au.own (i:=3) s31 rfl) ho,trivial⟩,?_⟩
   refine gM.use hC ho.hash fun G33 c33=>?_
   rw[hc1 hk]
   have s33:=s31.tmp c33
   refine ae (tr0 _) ?_
   refine ae (tr1 _) ?_
   refine Rc.st (i:=1) s33 rfl zok bw.nil hcok bw.nil fun G36 s36=>?_
   refine ae (St.ld (au.own (i:=2) s36 rfl) hso hl) ?_
   refine ae (Oq.xD (au.own (i:=3) s36 rfl) ho) ?_
   refine ae (Oq.sk (au.own (i:=3) s36 rfl) ho) ?_
   refine fh.use (hS.mv s36.ch) I ho.hash fun G41 c41=>?_
   rw[hc1 hk]
   have s41:=s36.tmp c41
   refine ae (tr0 _) ?_
   refine ae (tr1 _) ?_
   refine Rc.st (i:=0) s41 rfl zok bw.nil hcok bw.nil fun G44 s44=>?_
   exact p149 G44 (.inl hk) s44
  rw[bB,aa,aI]
  refine⟨fun hk=>?_,fun hk2=>?_⟩
  ·refine ae (St.ld (au.own (i:=2) s24 rfl) hso hl) ?_
   refine ae (Oq.B0 (au.own (i:=3) s24 rfl) ho) ?_
   refine ae (Oq.sk (au.own (i:=3) s24 rfl) ho) ?_
   refine cp s24 fun wo wp wh G31 hC s31=>?_
   refine⟨⟨Oq.sk (au.own (i:=3) s31 rfl) ho,Oq.B0 (au.own (i:=3) s31 rfl) ho,trivial⟩,?_⟩
   refine iT.use hC ho.id ho.hash fun G33 c33=>?_
   rw[hc2 hk]
   have s33:=s31.tmp c33
   refine ae (tr0 _) ?_
   refine ae (tr1 _) ?_
   refine Rc.st (i:=1) s33 rfl zok bw.nil hcok bw.nil fun G36 s36=>?_
   refine ae (St.ld (au.own (i:=2) s36 rfl) hso hl) ?_
   refine ae (Oq.B0 (au.own (i:=3) s36 rfl) ho) ?_
   refine ae (Oq.sk (au.own (i:=3) s36 rfl) ho) ?_
   refine eJ.use (hS.mv s36.ch) I ho.id ho.hash fun G41 c41=>?_
   rw[hc2 hk]
   have s41:=s36.tmp c41
   refine ae (tr0 _) ?_
   refine ae (tr1 _) ?_
   refine Rc.st (i:=0) s41 rfl zok bw.nil hcok bw.nil fun G44 s44=>?_
   exact p149 G44 (.inr (.inl hk)) s44
  rw[bB,aa,aI]
  refine⟨fun hk=>?_,fun hk3=>?_⟩
  ·refine ae (St.ld (au.own (i:=2) s24 rfl) hso hl) ?_
   refine ae (Oq.B0 (au.own (i:=3) s24 rfl) ho) ?_
   refine ae (Oq.zc (au.own (i:=3) s24 rfl) ho) ?_
   refine cp s24 fun wo wp wh G31 hC s31=>?_
   refine⟨⟨Oq.zc (au.own (i:=3) s31 rfl) ho,Oq.B0 (au.own (i:=3) s31 rfl) ho,trivial⟩,?_⟩
   refine iV.use hC ho.id ho.note fun G33 c33=>?_
   rw[hc3 hk]
   have s33:=s31.tmp c33
   refine ae (tr0 _) ?_
   refine ae (tr1 _) ?_
   refine Rc.st (i:=1) s33 rfl zok bw.nil hcok bw.nil fun G36 s36=>?_
   refine ae (St.ld (au.own (i:=2) s36 rfl) hso hl) ?_
   refine ae (Oq.B0 (au.own (i:=3) s36 rfl) ho) ?_
   refine ae (Oq.zc (au.own (i:=3) s36 rfl) ho) ?_
   refine eK.use (hS.mv s36.ch) I ho.id ho.note fun G41 c41=>?_
   rw[hc3 hk]
   have s41:=s36.tmp c41
   refine ae (tr0 _) ?_
   refine ae (tr1 _) ?_
   refine Rc.st (i:=0) s41 rfl zok bw.nil hcok bw.nil fun G44 s44=>?_
   exact p149 G44 (.inr (.inr (.inl hk))) s44
  rw[bB,aa,aI]
  refine⟨fun hk=>?_,fun hk4=>?_⟩
  ·refine ae jm ?_
   refine ae qP ?_
   refine ae (qN _) ?_
   refine ae ((a.mv s24.ch).ldC k _) ?_
   refine ae (St.ld (au.own (i:=2) s24 rfl) hso hl) ?_
   refine cp s24 fun wo wp wh G90 hC s90=>?_
   refine⟨⟨(a.mv s90.ch).ldC k _,trivial⟩,?_⟩
   refine jz.use hC fun G92 c92=>?_
   rw[hc4 hk]
   have s92:=s90.tmp c92
   refine ae (tr0 _) ?_
   refine ae (tr1 _) ?_
   refine Rc.st (i:=1) s92 rfl zok bw.nil hcok bw.nil fun G95 s95=>?_
   refine ae jm ?_
   refine ae qP ?_
   refine ae (qN _) ?_
   refine ae ((a.mv s95.ch).ldC k _) ?_
   refine ae (St.ld (au.own (i:=2) s95 rfl) hso hl) ?_
   refine fZ.use (hS.mv s95.ch) fun G102 c102=>?_
   rw[hc4 hk]
   have s102:=s95.tmp c102
   refine ae (tr0 _) ?_
   refine ae (tr1 _) ?_
   refine Rc.st (i:=0) s102 rfl zok bw.nil hcok bw.nil fun G105 s105=>?_
   exact p149 G105 (.inr (.inr (.inr hk))) s105
  rw[bB,aa,aI]
  refine⟨fun h5=>?_,fun h5=>?_⟩
  ·rw[if_pos h5]at hQ
   refine ae (Oq.ld (au.own (i:=3) s24 rfl) ho) ?_
   obtain⟨F1,h1,c1⟩:=same (Sp.with h s24)
   refine df.use h1 k hn ho (fun e G10 c10=>?_) fun m ms e F' G10 h10 c10=>?_
   ·rw[e]at hQ
    have hQ:∀ F' G',(jP tb t).p G' F'->Ch F G F' G'->Q (.bool true) G':=hQ
    have S10:=(Sp.with h s24).tmp c10
    refine ae (tv0 _ _) ?_
    refine ae (tv1 _ _) ?_
    refine Kz S10 cr.bq fun i13 G15 s15=>?_
    rw[dx,aa,Bool.not_false,aN]
    obtain⟨F',q1,q2⟩:=same (s15.erase 0)
    exact hQ F' G15 q1 q2
   ·rw[e]at hQ
    have hQ:∀ F' G',(jP tb (sD (oW t o.side ms) o.side (yE m o)).1).p G' F'->Ch F G F' G'->Q (.bool true) G':=hQ
    have hm:(yE m o).ok:=wE (k.q o.side m (by rw[e];simp)) ho
    have k':kK (oW t o.side ms) n:=by
     have hq:=k.q o.side
     have hl:=k.n o.side
     rw[e]at hq hl
     simp only[List.length_cons]at hl
     exact vD k (Nat.le_refl n) (fun x hx=>hq x (List.mem_cons_of_mem _ hx)) (by omega)
    have S10:Sp F G [jP tb (oW t o.side ms)] G10:=Sp.one h10 (c1.trans c10)
    refine ae (tv0 _ _) ?_
    refine ae (tv1 _ _) ?_
    refine Kz S10 hm fun i13 G15 s15=>?_
    rw[dx,aa,Bool.not_true,aK]
    refine ae (gx (i:=0) s15 rfl hm).2.2.2.2.2.2.2.2 ?_
    obtain⟨F5,h5',c5⟩:=same (s15.erase 0)
    refine cV.use (hT.mono s15.ro) h5' k' hn hm fun F' G18 q1 q2=>?_
    exact hQ F' G18 q1 (c5.trans q2)
  rw[if_neg h5]at hQ
  rw[bB,aa,aI]
  refine⟨fun h6=>?_,fun h6=>?_⟩
  ·rw[if_pos h6]at hQ
   refine ae jm ?_
   refine ae qO ?_
   refine ae (qM _) ?_
   refine ae (Fb _) ?_
   have S24:Sp F G [jP tb t] G24:=(Sp.with h s24).take 1
   refine IH S24 k fun G126 S126=>?_
   obtain⟨F',q1,q2⟩:=S126.out
   exact hQ F' G126 q1 q2
  ·rw[if_neg h6,hce (by rintro (h | h | h | h);exact hk1 h;exact hk2 h;exact hk3 h;exact hk4 h)]at hQ
   obtain⟨F',q1,q2⟩:=same (Sp.with h s24)
   exact hQ F' G24 q1 q2
 cases hs:o.side with
 | false=>
  rw[hs]at go
  rw[aK]
  exact go
 | true=>
  rw[hs]at go
  rw[aN]
  exact go
end
end Go.Esc.M
namespace Go.Esc.M
open Go Go.Esc
theorem KY {s:Bool}:az T .add ay (.int .i64 (bI s)) (.int .i64 1)=some (.int .i64 (bI s+1)):=by cases s<;>rfl
theorem IM {c:CfM}(hc:c.ok) (G:ak):ka G ⟨(mm c).1,[],[],[]⟩ .nilSlice .nilSlice .nilSlice:=
 ⟨pN hc,hJ.nil,hJ.nil,hJ.nil,(fun u hu=>by cases hu),(fun u hu=>by cases hu),(fun u hu=>by cases hu),by simp,by simp,by simp⟩
def uK (t:me) (l:List jj):me:=l.foldl sC t
theorem Fv {l:List jj}{t:me}{j:Nat}{o:jj}(h:l[j]?=some o):uK t (l.take (j+1))=sC (uK t (l.take j)) o:=by
 rw[List.take_add_one,h]
 unfold uK
 rw[List.foldl_append]
 rfl
theorem H3 {t:me}{n:Nat}(k:kK t n) (h:Few t) {o:jj}(ho:o.ok):Few (sC t o):=by
 unfold sC
 split
 ·have hq:=k.q o.side
  have hn:=k.n o.side
  split
  ·exact h
  ·rename_i m ms e
   rw[e]at hq hn
   refine H4 (vD k (Nat.le_refl n) (fun x hx=>hq x (List.mem_cons_of_mem _ hx)) (by simp only[List.length_cons]at hn;omega)) (H2 h (by rw[e];simp)) (wE (hq m (by simp)) ho)
 split
 ·exact Ce h (Nat.le_refl _)
 split
 ·rename_i h0
  exact JF k h h0
 ·exact h
theorem xv:∀ {l:List jj}{t:me},kK t 10240->Few t->(∀ o∈l,o.ok)->kK (uK t l) 10240/\Few (uK t l)
 | [],t,k,h,_=>⟨k,h⟩
 | o::l,t,k,h,ho=>by
  have e:uK t (o::l)=uK (sC t o) l:=rfl
  rw[e]
  have h1:=H3 k h (ho o (by simp))
  exact xv (LN (H5 k (ho o (by simp))) h1) h1 fun x hx=>ho x (by simp[hx])
theorem Ap {G:ak}{d ops:ah}{m1 m2:Nat}(hT:Tab G) (h1:wt T G reachBytes 6 db d m1) (h2:wt T G reachBytes 6 jd ops m2) :
  al P eF.n [d,ops] G fun v _=>v=.bool true:=by
 obtain⟨d,rfl,hd⟩:=Kb h1
 obtain⟨l,hro,hok,hlen⟩:=Ka h2
 have hlen:l.length≤140737488351232:=hlen
 refine eF.sound ?_
 unfold eF.S
 intro i1 f1
 have s1:=(Sp.nil G).row f1 d.av
 revert s1
 generalize ak.upd _ i1 _=G2
 intro s1
 refine fy.use (hT.mono s1.ro) fun G4 c4=>?_
 have s4:Sp [] G [au i1 d.av] G4:=s1.tmp c4
 rw[dx,aa,Bool.not_true,aK]
 refine ae (Dl.ld (au.own (i:=0) s4 rfl) hd) ?_
 refine cQ.use hd fun G8 c8=>?_
 have s8:=s4.tmp c8
 have hcs:=Db hd
 have e0:FW d=AL d false:=rfl
 have e1:FV d=AL d true:=rfl
 rw[e0,e1]
 clear e0 e1
 obtain⟨c,hcd⟩:∃ c,c=AL d:=⟨_,rfl⟩
 rw[<- hcd]at hcs ⊢
 have hz:Esc.sz (nU (c false) (c true))=328:=by simp[nU,Esc.sz,szs,CfM.sz (hcs false),CfM.sz (hcs true)]
 have hfit:dD jO (nU (c false) (c true))=true:=by
  have h2:(nU (c false) (c true)).isAgg=true:=rfl
  simp[dD,hz,h2,jO,kZ.isAgg]
 have hokv:Esc.okv (nU (c false) (c true))=true:=by simp[nU,Esc.okv,mz,CfM.okv]
 refine jL s8 mW hfit (by rw[hz];rfl) hokv fun i9 G11 s11=>?_
 have s11:Sp [] G [au i9 (nU (c false) (c true)),au i1 d.av] G11:=s11
 intro R12 hR
 have ldc:∀ {ps:List LP}{G2:ak} (s:Bool),Sp [] G (au i9 (nU (c false) (c true))::ps) G2->aO T cJ (.ptr i9 [] 0) (.int .i64 (bI s))=some (.ptr i9 [bN s] (0+bN s*164))/\ag T G2 bU (.ptr i9 [bN s] (0+bN s*164))=some (c s).av:=by
  intro ps G2 s sp
  have hg:=au.own (i:=0) sp rfl
  have hss:[(c false).av,(c true).av].map Esc.sz=[164,164]:=by simp[CfM.sz (hcs false),CfM.sz (hcs true)]
  refine⟨by cases s<;>rfl,?_⟩
  cases s
  ·exact ld1 hg hss rfl rfl kp (CfM.fits (hcs false))
  ·exact ld1 hg hss rfl rfl kp (CfM.fits (hcs true))
 have one:∀ (s:Bool) (G13:ak),Sp [] G [au i9 (nU (c false) (c true)),au i1 d.av] G13->(∀ G',Sp [] G [au i9 (nU (c false) (c true)),au i1 d.av] G'->R12 [ops,.ptr i1 [] 0,.ptr i9 [] 0,.int .i64 (bI s+1)] G')->R12 [ops,.ptr i1 [] 0,.ptr i9 [] 0,.int .i64 (bI s)] G13:=by
  intro s G13 s13 next
  have hc:=hcs s
  have hso:=pN hc
  have hin:=fun G=>IM hc G
  obtain⟨X,hX⟩:∃ x,x=mm (c s):=⟨_,rfl⟩
  rw[<- hX]at hso
  simp only[<- hX]at hin
  refine hR _ _ _ _ _ ?_
  rw[aM,aa,dT_ (by cases s<;>decide),aN]
  refine ae (ldc s s13).1 ?_
  refine ae (ldc s s13).2 ?_
  refine iv.use hc fun G22 c22=>?_
  rw[<- hX]
  have s22:Sp [] G [au i9 (nU (c false) (c true)),au i1 d.av] G22:=s13.tmp c22
  refine ae (tv0 _ _) ?_
  refine ae (tv1 _ _) ?_
  refine St.nw s22 hso lv0 fun i25 G27 s27=>?_
  have s27':Sp [] G [au i9 (nU (c false) (c true)),au i1 d.av] G27:=s27.erase 0
  refine ae (ldc s s27').1 ?_
  refine ae (ldc s s27').2 ?_
  refine dK.use hc fun G31 c31=>?_
  rw[<- hX]
  have s31:=s27.tmp c31
  refine ae (tv0 _ _) ?_
  refine ae (tv1 _ _) ?_
  refine St.nw s31 hso lv0 fun i34 G36 s36=>?_
  rw[cD,aa,dC]
  refine⟨fun h=>absurd rfl h,fun _=>?_⟩
  refine ae (St.ld (au.own (i:=1) s36 rfl) hso lv0) ?_
  refine ae (St.ld (au.own (i:=0) s36 rfl) hso lv0) ?_
  refine cP.same (f:=⟨X.1,[],[],[]⟩) (hin _) (hin _) fun G41 c41=>?_
  rw[dx,aa,Bool.not_true,aK,KY,aa]
  exact next G41 (((s36.tmp c41).erase 0).erase 0)
 refine one false G11 s11 fun G12 s12=>?_
 refine one true G12 s12 fun G13 s13=>?_
 refine hR _ _ _ _ _ ?_
 rw[aM,aa,dF_ (by decide),aK]
 refine ae (Dl.ld (au.own (i:=1) s13 rfl) hd) ?_
 refine fC.use hd (fun _ G50 c50=>?_) fun hb tb G50 t50=>?_
 ·refine ae (tv0 _ _) ?_
  refine ae (tv1 _ _) ?_
  rw[dx,aa,Bool.not_false,aN]
 ·refine ae (tv0 _ _) ?_
  refine ae (tv1 _ _) ?_
  rw[dx,aa,Bool.not_true,aK]
  have s50:Sp [] G [jP tb (Ig d)] G50:=(u9 s13 t50).take 1
  have k0:=(KU hd hb).more (show 0≤10240 by decide)
  have f0:=KJ d
  generalize Ig d=t0 at s50 k0 f0
  intro R54 hR54
  have loop:∀ (m j:Nat) (G55:ak),m+j=l.length->Sp [] G [jP tb (uK t0 (l.take j))] G55->R54 [ops,.ptr tb [] 0,.int .i64 (j:Nat)] G55:=by
   intro m
   induction m with
   | zero=>
    intro j G55 hj s55
    have k:=(xv (l:=l.take j) k0 f0 fun o ho=>hok o (List.mem_of_mem_take ho)).1
    generalize uK t0 (l.take j)=t at s55 k
    refine hR54 _ _ _ _ ?_
    refine ae (GA (hro.cap.gZ.ch' s55.ch)) ?_
    rw[aM,aa,dF_ (by omega),aK]
    obtain⟨F1,hF1⟩:=s55.get (i:=0) rfl
    obtain⟨lv,wq,a⟩:=jP.at_ hF1
    refine ae jm ?_
    refine ae qP ?_
    refine ae (qN false) ?_
    refine ae (a.ldC k false) ?_
    refine ae jm ?_
    refine ae qO ?_
    refine ae (qM false) ?_
    refine ae (a.ldS k false) ?_
    refine dA.use (a.IV k false) (k.f false) (k.c false) fun G76 c76=>?_
    rw[aN]
    have a76:=a.mv c76
    refine ae jm ?_
    refine ae qP ?_
    refine ae (qN true) ?_
    refine ae (a76.ldC k true) ?_
    refine ae jm ?_
    refine ae qO ?_
    refine ae (qM true) ?_
    refine ae (a76.ldS k true) ?_
    refine dA.use (a76.IV k true) (k.f true) (k.c true) fun G86 c86=>?_
    rfl
   | succ m ih=>
    intro j G55 hj s55
    obtain⟨o,ho⟩:∃ o,l[j]?=some o:=⟨_,List.getElem?_eq_getElem (by omega)⟩
    have hoo:=hok o (List.mem_of_getElem? ho)
    have k:=(xv (l:=l.take j) k0 f0 fun o ho=>hok o (List.mem_of_mem_take ho)).1
    refine hR54 _ _ _ _ ?_
    refine ae (GA (hro.cap.gZ.ch' s55.ch)) ?_
    rw[aM,aa,dT_ (by omega),aN]
    obtain⟨a,a1,a2⟩:=Lt (hro.cap.gZ.ch' s55.ch) ho
    refine ae a1 ?_
    refine ae a2 ?_
    have hTG:=hT.mono s55.ro
    refine s55.call (i:=0) rfl (jP tb (uK t0 (l.take (j+1)))) fun F1 h1 kk=>?_
    refine de.use hTG h1 k (by omega) hoo fun F2 G64 h2 c2=>?_
    rw[<- Fv ho]at h2
    rw[dx,aa,Bool.not_true,aK,bg,i64_in (by omega) (by omega),aa]
    exact ih (j+1) G64 (by omega) (kk F2 G64 h2 c2)
  exact loop l.length 0 G50 (by omega) s50
end Go.Esc.M
