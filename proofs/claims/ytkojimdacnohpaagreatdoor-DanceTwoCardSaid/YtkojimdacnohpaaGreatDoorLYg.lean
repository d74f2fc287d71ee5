import Derived.Test.YtkojimdacnohpaaGreatDoorLYe
import Derived.Test.YtkojimdacnohpaaGreatDoorLMd
set_option maxHeartbeats 4000000
set_option linter.unusedSimpArgs false
set_option linter.unusedVariables false
set_option maxRecDepth 20000
namespace Go.Esc.M
open Go Go.Esc
section
variable {F0:List AId}{G0 G:ak}{ps:List LP}{Q:ah->ak->Prop}{tb:AId}{t:me}{l:Bool->Ls}{w:Bool->ah}
theorem abH {s:StM}{a b c:ah}(h:bw a):uV T aE (s.av a b c) 4=some a:=by
 have hf:dD dL a=true:=kF h rfl
 show (if (szs [.int .i64 s.side,.int .i64 s.cap,.int .i64 s.bo,.int .i64 s.bp] == 4 && dD dL a)=true then some a else none)=some a
 rw[hf]
 rfl
theorem abu {s:StM}{a b c:ah}(h:bw a) (k:bw b):uV T aE (s.av a b c) 5=some b:=by
 have hf:dD dL b=true:=kF k rfl
 have e:szs [.int .i64 s.side,.int .i64 s.cap,.int .i64 s.bo,.int .i64 s.bp,a]=5:=by simp[szs,Esc.sz,h.1]
 show (if (szs [.int .i64 s.side,.int .i64 s.cap,.int .i64 s.bo,.int .i64 s.bp,a] == 5 && dD dL b)=true then some b else none)=some b
 rw[hf,e]
 rfl
theorem abB {v:ah}{l:List ba}{j:Nat}{p:ba}(h:ff 35 G v (l.map ba.av)) (hj:l[j]?=some p) :
  ∃ a b,aO T aw v (.int .i64 (j:Int))=some a/\bt T aT a 2=some b/\ag T G aq b=some (.int .i64 p.amount):=
 I7 (f:=2) (o:=2) (tf:=aq) (fi:=iZ) (c:=.int .i64 p.amount) h hj rfl cu (by decide) rfl rfl rfl
theorem abN {f:StF}(I:iY f) {n m:Nat}(h1:f.s.atA.toNat≤n) (h2:n≤f.o.length) (h3:f.s.heldB.toNat≤m) (h4:m≤f.p.length) :
  (kx f n m).e=0/\0≤(kx f n m).o/\0≤(kx f n m).q/\(kx f n m).o+(kx f n m).q+((kx f n m).l.map (·.amount)).sum=f.s.cap/\(∀ p∈(kx f n m).l,1≤p.amount):=by
 obtain⟨e,e0,_⟩:=I.stands h1 h2 h3 h4
 obtain⟨a,b,c⟩:=aa7 e0
 have:=c.sum
 have:=I.cap
 rw[e]
 exact⟨e0,a,b,by omega,c.one⟩
def aaD (s:StM) (j:Nat):Int×Int:=if j=0 then (s.atA,s.atB) else if j=1 then (s.sgnA,s.sgnB) else (s.heldA,s.heldB)
def aaE (s:StM):ah:=.agg [bE s.atA s.atB,bE s.sgnA s.sgnB,bE s.heldA s.heldB]
theorem abp {s:StM}{i7:AId}{j:Nat}(hj:j<3) (hg:G i7=some (.own (aaE s))):∃ a,aO T aax (.ptr i7 [] 0) (.int .i64 (j:Int))=some a/\ag T G aU a=some (bE (aaD s j).1 (aaD s j).2):=by
 have hss:[bE s.atA s.atB,bE s.sgnA s.sgnB,bE s.heldA s.heldB].map Esc.sz=[2,2,2]:=rfl
 match j,hj with
 | 0,_=>exact⟨.ptr i7 [0] 0,rfl,ld1 hg hss rfl rfl cK rfl⟩
 | 1,_=>exact⟨.ptr i7 [1] 2,rfl,ld1 hg hss rfl rfl cK rfl⟩
 | 2,_=>exact⟨.ptr i7 [2] 4,rfl,ld1 hg hss rfl rfl cK rfl⟩
theorem abR {f:StF}(I:iY f) (j:Nat):f.s.atA≤(aaD f.s j).1/\(aaD f.s j).1≤(f.o.length:Nat)/\f.s.heldB≤(aaD f.s j).2/\(aaD f.s j).2≤(f.p.length:Nat):=by
 have:=I.a1
 have:=I.a2
 have:=I.a3
 have:=I.b1
 have:=I.b2
 have:=I.b3
 unfold aaD
 split
 ·exact⟨by omega,by omega,by omega,by omega⟩
 ·split
  ·exact⟨by omega,by omega,by omega,by omega⟩
  ·exact⟨by omega,by omega,by omega,by omega⟩
theorem aau.use {f:StF}{vo vp vh:ah}(hS:ka G f vo vp vh) (I:iY f) (hQ:∀ G',Ch [] G [] G'->Q (.bool true) G'):al P aau.n [f.s.av vo vp vh] G Q:=by
 have hs:=hS.ok
 have hl:=hS.lv
 have hlo:=I.lo
 have hlp:=I.lp
 have hcm:=I.capm
 refine aau.sound ?_
 unfold aau.S
 intro i1 f1
 have s1:=(Sp.nil G).row f1 (f.s.av vo vp vh)
 revert s1
 generalize ak.upd _ i1 _=G2
 intro s1
 have hg:=au.own (i:=0) s1 rfl
 refine ae (St.GV hg hs hl) ?_
 refine ae (St.vr hg hs hl) ?_
 refine ae (St.GS hg hs hl) ?_
 refine ae (v:=aaE f.s) rfl ?_
 refine jL s1 aaQ rfl rfl rfl fun i7 G9 s9=>?_
 have s9:Sp [] G [au i7 (aaE f.s),au i1 (f.s.av vo vp vh)] G9:=s9
 intro R10 hR
 have loop:∀ (n j:Nat) (G11:ak),n+j=3->Sp [] G [au i7 (aaE f.s),au i1 (f.s.av vo vp vh)] G11->R10 [.ptr i1 [] 0,.ptr i7 [] 0,.int .i64 (j:Int)] G11:=by
  intro n
  induction n with
  | zero=>
   intro j G11 hj s11
   refine hR _ _ _ _ ?_
   rw[aM,aa,dF_ (by omega),aK]
   exact hQ _ s11.ch
  | succ n ih=>
   intro j G11 hj s11
   refine hR _ _ _ _ ?_
   rw[aM,aa,dT_ (by omega),aN]
   have hg1:=au.own (i:=1) s11 rfl
   obtain⟨a,a1,a2⟩:=abp (j:=j) (by omega) (au.own (i:=0) s11 rfl)
   refine ae (v:=.ptr i1 [2] 2) rfl ?_
   refine ae (St.uM hg1 hs hl) ?_
   refine ae (v:=.ptr i1 [3] 3) rfl ?_
   refine ae (St.tC hg1 hs hl) ?_
   refine ae (St.ld hg1 hs hl) ?_
   refine ae (St.ld hg1 hs hl) ?_
   refine ae a1 ?_
   refine ae a2 ?_
   refine bP.use (hS.mv s11.ch) fun wo wp wh G25 t25=>?_
   have s25:Sp [] G [bm 34 wh (f.h.map b6.av),bm 36 wp (f.p.map aL.av),bm 36 wo (f.o.map aL.av),au i7 (aaE f.s),au i1 (f.s.av vo vp vh)] G25:=u9 s11 t25
   have ld25:∀ {G2:ak}{ps:List LP},Sp [] G (ps++[au i7 (aaE f.s),au i1 (f.s.av vo vp vh)]) G2->G2 i7=some (.own (aaE f.s))/\G2 i1=some (.own (f.s.av vo vp vh)):=by
    intro G2 ps sp
    have e:∀ x:Nat,(ps++[au i7 (aaE f.s),au i1 (f.s.av vo vp vh)])[ps.length+x]?=[au i7 (aaE f.s),au i1 (f.s.av vo vp vh)][x]?:=by
     intro x
     rw[List.getElem?_append_right (by omega),Nat.add_sub_cancel_left]
    exact⟨au.own (i:=ps.length+0) sp (e 0),au.own (i:=ps.length+1) sp (e 1)⟩
   have back:∀ {G2:ak},G2 i7=some (.own (aaE f.s))->ag T G2 aU a=some (bE (aaD f.s j).1 (aaD f.s j).2):=by
    intro G2 h7
    obtain⟨b,b1,b2⟩:=abp (j:=j) (by omega) h7
    rw[a1]at b1
    injection b1 with b1
    rw[b1]
    exact b2
   obtain⟨g7,g1⟩:=ld25 (ps:=[bm 34 wh (f.h.map b6.av),bm 36 wp (f.p.map aL.av),bm 36 wo (f.o.map aL.av)]) s25
   refine⟨⟨back g7,St.ld g1 hs hl,St.tC g1 hs hl,St.uM g1 hs hl,trivial⟩,?_⟩
   refine ae (abH (bm.own (i:=2) s25 rfl).leaf) ?_
   refine bP.use (hS.mv s25.ch) fun yo yp yh G28 t28=>?_
   have s28:Sp [] G [bm 34 yh (f.h.map b6.av),bm 36 yp (f.p.map aL.av),bm 36 yo (f.o.map aL.av),bm 34 wh (f.h.map b6.av),bm 36 wp (f.p.map aL.av),bm 36 wo (f.o.map aL.av),au i7 (aaE f.s),au i1 (f.s.av vo vp vh)] G28:=u9 s25 t28
   obtain⟨g7,g1⟩:=ld25 (ps:=[bm 34 yh (f.h.map b6.av),bm 36 yp (f.p.map aL.av),bm 36 yo (f.o.map aL.av),bm 34 wh (f.h.map b6.av),bm 36 wp (f.p.map aL.av),bm 36 wo (f.o.map aL.av)]) s28
   refine⟨⟨back g7,St.tC g1 hs hl,St.uM g1 hs hl,trivial⟩,?_⟩
   refine ae (abu (bm.own (i:=2) s28 rfl).leaf (bm.own (i:=1) s28 rfl).leaf) ?_
   refine iM.use (Own.nj (bm.own (i:=5) s28 rfl)) (Own.nj (bm.own (i:=1) s28 rfl)) I.oko I.okp (by omega) (by omega) fun x G31 t31=>?_
   have s31:=u9 s28 t31
   have hc:=abR I j
   have h0:=I.a0
   have h1:=I.b0
   obtain⟨b1,b2,b3,b4,b5⟩:=abN I (n:=(aaD f.s j).1.toNat) (m:=(aaD f.s j).2.toNat) (by omega) (by omega) (by omega) (by omega)
   rw[Int.toNat_of_nonneg (show 0≤(aaD f.s j).1 by omega),Int.toNat_of_nonneg (show 0≤(aaD f.s j).2 by omega)]at b1 b2 b3 b4 b5
   have hpl:=uj f (aaD f.s j).1 (aaD f.s j).2
   have hpo:∀ p∈(kx f (aaD f.s j).1 (aaD f.s j).2).l,p.ok:=JB I.oko I.okp
   have eF:mN f.s.bo f.s.bp f.o f.p (aaD f.s j).1 (aaD f.s j).2=kx f (aaD f.s j).1 (aaD f.s j).2:=rfl
   rw[eF]at s31 ⊢
   obtain⟨M,hM⟩:∃ M,M=kx f (aaD f.s j).1 (aaD f.s j).2:=⟨_,rfl⟩
   rw[<- hM]at s31 b1 b2 b3 b4 b5 hpl hpo ⊢
   clear eF
   have s31:Sp [] G [bm 35 x (M.l.map ba.av),bm 34 yh (f.h.map b6.av),bm 36 yp (f.p.map aL.av),bm 36 yo (f.o.map aL.av),bm 34 wh (f.h.map b6.av),bm 36 wp (f.p.map aL.av),bm 36 wo (f.o.map aL.av),au i7 (aaE f.s),au i1 (f.s.av vo vp vh)] G31:=s31
   have hv:=tU (bm.own (i:=0) s31 rfl).is
   refine ae (tv0 _ _) ?_
   refine ae (tv1 _ _) ?_
   refine abX s31 hv fun i34 G36 s36=>?_
   have s36:Sp [] G [au i34 (gH M.o M.q x),bm 35 x (M.l.map ba.av),au i7 (aaE f.s),au i1 (f.s.av vo vp vh)] G36:=((((((s36.erase 2).erase 2).erase 2).erase 2).erase 2).erase 2)
   obtain⟨p0,p1,_,_⟩:=iI (i:=0) s36 rfl hv
   have hsn:∀ (m:Nat),0≤((M.l.drop m).map (·.amount)).sum/\0≤((M.l.take m).map (·.amount)).sum/\(M.l.map (·.amount)).sum=((M.l.take m).map (·.amount)).sum+((M.l.drop m).map (·.amount)).sum:=by
    intro m
    refine⟨abA fun a ha=>?_,abA fun a ha=>?_,?_⟩
    ·obtain⟨p,hp,rfl⟩:=List.mem_map.1 ha
     exact b5 p (List.mem_of_mem_drop hp)
    ·obtain⟨p,hp,rfl⟩:=List.mem_map.1 ha
     exact b5 p (List.mem_of_mem_take hp)
    ·rw[<- List.sum_append,<- List.map_append,List.take_append_drop]
   have hn0:=hsn 0
   simp only[List.drop_zero]at hn0
   refine ae p0 ?_
   refine ae p1 ?_
   rw[bg,i64_in (by omega) (by omega),aa]
   intro R40 hR40
   have inner:∀ (y m:Nat) (G41:ak),y+m=M.l.length->Sp [] G [au i34 (gH M.o M.q x),bm 35 x (M.l.map ba.av),au i7 (aaE f.s),au i1 (f.s.av vo vp vh)] G41 ->
     R40 [.ptr i1 [] 0,.ptr i7 [] 0,.int .i64 (j:Int),.ptr i34 [] 0,.int .i64 M.e,.int .i64 (M.o+M.q+((M.l.take m).map (·.amount)).sum),.int .i64 (m:Int)] G41:=by
    intro y
    induction y with
    | zero=>
     intro m G41 hm s41
     have hg41:=au.own (i:=3) s41 rfl
     obtain⟨q0,q1,q2,_⟩:=iI (i:=0) s41 rfl hv
     refine hR40 _ _ _ _ _ _ _ _ ?_
     refine ae (v:=.ptr i34 [2] 2) rfl ?_
     refine ae q2 ?_
     refine ae (abb (bm.own (i:=1) s41 rfl).is) ?_
     rw[aM,aa,dF_ (by omega),aK,cD,aa,b1,dC]
     refine⟨fun h=>absurd rfl h,fun _=>?_⟩
     refine ae (v:=.ptr i34 [0] 0) rfl ?_
     refine ae q0 ?_
     rw[aM,aa,dF_ (by omega),aK]
     refine ae (v:=.ptr i34 [1] 1) rfl ?_
     refine ae q1 ?_
     rw[aM,aa,dF_ (by omega),aK]
     refine ae (v:=.ptr i1 [1] 1) rfl ?_
     refine ae (St.mL hg41 hs hl) ?_
     rw[List.take_of_length_le (by omega),b4,cD,aa,dC]
     refine⟨fun h=>absurd rfl h,fun _=>?_⟩
     rw[bg,i64_in (by omega) (by omega),aa]
     exact ih (j+1) G41 (by omega) ((s41.erase 0).erase 0)
    | succ y ih2=>
     intro m G41 hm s41
     obtain⟨p,hp⟩:∃ p,M.l[m]?=some p:=⟨_,List.getElem?_eq_getElem (by omega)⟩
     obtain⟨q0,q1,q2,_⟩:=iI (i:=0) s41 rfl hv
     have hpm:=abB (bm.own (i:=1) s41 rfl).is hp
     obtain⟨c,d,d1,d2,d3⟩:=hpm
     refine hR40 _ _ _ _ _ _ _ _ ?_
     refine ae (v:=.ptr i34 [2] 2) rfl ?_
     refine ae q2 ?_
     refine ae (abb (bm.own (i:=1) s41 rfl).is) ?_
     rw[aM,aa,dT_ (by omega),aN]
     refine ae (v:=.ptr i34 [2] 2) rfl ?_
     refine ae q2 ?_
     refine ae d1 ?_
     refine ae d2 ?_
     refine ae d3 ?_
     have hn1:=hsn (m+1)
     have hn2:=hsn m
     have et:((M.l.take (m+1)).map (·.amount)).sum=((M.l.take m).map (·.amount)).sum+p.amount:=by
      rw[List.take_add_one,hp,List.map_append,List.sum_append]
      simp
     rw[bg,i64_in (by omega) (by omega),aa,bg,i64_in (by omega) (by omega),aa,show M.o+M.q+((M.l.take m).map (·.amount)).sum+p.amount=M.o+M.q+((M.l.take (m+1)).map (·.amount)).sum by omega]
     exact ih2 (m+1) G41 (by omega) s41
   have:=inner M.l.length 0 G36 (by omega) s36
   rw[List.take_zero,show M.o+M.q+(([]:List ba).map (·.amount)).sum=M.o+M.q by simp]at this
   exact this
 exact loop 3 0 G9 rfl s9
structure ab2 (f g:StF):Prop where
 a:f.s.rem=f.s.ack
 b:f.s.rem=g.s.loc
 c:f.s.sgnA=g.s.atB
 d:f.s.sgnB=g.s.atA
 o:f.o=g.p
 bo:f.s.bo=g.s.bp
theorem aat.use {f g:StF}{vo vp vh wo wp wh:ah}(hS:ka G f vo vp vh) (hW:ka G g wo wp wh) (I:iY f) (J:iY g) (h:ab2 f g) (hQ:∀ G',Ch [] G [] G'->Q (.bool true) G'):al P aat.n [f.s.av vo vp vh,g.s.av wo wp wh] G Q:=by
 have hs:=hS.ok
 have hl:=hS.lv
 have hs2:=hW.ok
 have hl2:=hW.lv
 have hlo:=I.lo
 have hlp:=J.lp
 refine aat.sound ?_
 unfold aat.S
 intro i1 f1
 have s1:=(Sp.nil G).row f1 (f.s.av vo vp vh)
 intro i3 f3
 have s3:=s1.row f3 (g.s.av wo wp wh)
 revert s3
 generalize ak.upd _ i3 _=G4
 intro s3
 have hf:=au.own (i:=1) s3 rfl
 have hg:=au.own (i:=0) s3 rfl
 refine ae (St.mn hf hs hl) ?_
 refine ae (St.mS hf hs hl) ?_
 rw[bB,aa,dT_ h.a,aN]
 refine ae (St.mn hf hs hl) ?_
 refine ae (St.qb hg hs2 hl2) ?_
 rw[bB,aa,dT_ h.b,aN]
 refine ae (St.KB hf hs hl) ?_
 refine ae (St.od hg hs2 hl2) ?_
 rw[bB,aa,dT_ h.c,aN]
 refine ae (St.abO hf hs hl) ?_
 refine ae (St.Jr hg hs2 hl2) ?_
 rw[bB,aa,dT_ h.d,aN]
 refine ae (St.dM hf hs hl) ?_
 refine ae (St.eH hg hs2 hl2) ?_
 refine bV.use (hS.mv s3.ch).o.gZ (hW.mv s3.ch).p.gZ I.oko J.okp (by omega) (by omega) ?_
 rw[dT_ h.o,aN]
 refine ae (St.uM hf hs hl) ?_
 refine ae (St.tC hg hs2 hl2) ?_
 rw[bB,aa,dT_ h.bo]
 exact hQ _ s3.ch
end
end Go.Esc.M
namespace Go.Esc.M
open Go Go.Esc
theorem aaB.ab1 {c d:CfM}{f g:StF}(h:aaB c d f g [] []):ab2 f g:=by
 have S:Sync f g:=h.L.sync
 have R:Sync g f:=h.M.sync
 exact⟨by rw[S.ack,R.loc],R.loc.symm,R.atB.symm,R.atA.symm,R.p.symm,h.E.bo⟩
theorem abx (b:Bool):bj T ja [(0,.int .i64 5),(1,.bool b)]=some (jj.av { jj.zero with kind:=5,side:=b }):=rfl
def abQ (b:Bool):jj:={ jj.zero with kind:=5,side:=b }
theorem abP (b:Bool):(abQ b).ok:=⟨iu 5 (by decide) (by decide),cL,cL,rfl,by simp[abQ,jj.zero],cL⟩
section
variable {F0:List AId}{G0 G:ak}{ps:List LP}{Q:ah->ak->Prop}{tb:AId}{t:me}{l:Bool->Ls}{w:Bool->ah}
theorem aaU {F:List AId}{n:Nat}(h:(jP tb t).p G F) (k:kK t n):∃ a b,ag T G bR (aQ tb false)=some a/\fU T G bR a=some (.int .i64 ((t.q false).length:Nat))/\ag T G bR (aQ tb true)=some b/\fU T G bR b=some (.int .i64 ((t.q true).length:Nat)):=by
 obtain⟨l,w,a⟩:=jP.at_ h
 exact⟨w false,w true,a.ldQ k false,Jf (a.q false).is,a.ldQ k true,Jf (a.q true).is⟩
end
theorem aa6 {G:ak}{d ops:ah}{m1 m2:Nat}(hT:Tab G) (h1:wt T G reachBytes 6 db d m1) (h2:wt T G reachBytes 6 jd ops m2) :
  al P aav.n [d,ops] G fun v _=>v=.bool true:=by
 obtain⟨d,rfl,hd⟩:=Kb h1
 obtain⟨l,hro,hok,hlen⟩:=Ka h2
 have hlen:l.length≤140737488351232:=hlen
 refine aav.sound ?_
 unfold aav.S
 intro i1 f1
 have s1:=(Sp.nil G).row f1 d.av
 revert s1
 generalize ak.upd _ i1 _=G2
 intro s1
 refine fy.use (hT.mono s1.ro) fun G4 c4=>?_
 have s4:Sp [] G [au i1 d.av] G4:=s1.tmp c4
 rw[dx,aa,Bool.not_true,aK]
 refine ae (Dl.ld (au.own (i:=0) s4 rfl) hd) ?_
 refine fC.use hd (fun _ G8 c8=>?_) fun hb tb G8 t8=>?_
 ·refine ae (tv0 _ _) ?_
  refine ae (tv1 _ _) ?_
  rw[dx,aa,Bool.not_false,aN]
 refine ae (tv0 _ _) ?_
 refine ae (tv1 _ _) ?_
 rw[dx,aa,Bool.not_true,aK]
 have s8:Sp [] G [jP tb (Ig d)] G8:=(u9 s4 t8).take 1
 have k0:=(KU hd hb).more (show 0≤10240 by decide)
 have f0:=KJ d
 have b0:=abL hd hb
 generalize Ig d=t0 at s8 k0 f0 b0
 intro R12 hR
 have loop:∀ (m j:Nat) (t:me) (G13:ak),m+j=l.length+4096->Sp [] G [jP tb t] G13->kK t 10240->Few t->aaO t->R12 [ops,.ptr tb [] 0,.int .i64 (j:Nat)] G13:=by
  intro m
  induction m with
  | zero=>?_
  | succ m ih=>?_
  all_goals
   intro j t G13 hj s13 k aab bo
   refine hR _ _ _ _ ?_
   intro J105
   have hsl:fU T G13 jd ops=some (.int .i64 (l.length:Nat)):=GA (hro.cap.gZ.ch' s13.ch)
   have hn0:=k.n false
   have hn1:=k.n true
   have last:J105 (.bool false) G13:=by
    simp -zeta only [J105,aK]
    obtain⟨F1,hF1⟩:=s13.get (i:=0) rfl
    obtain⟨va,vb,q1,q2,q3,q4⟩:=aaU hF1 k
    obtain⟨lv,wq,a⟩:=jP.at_ hF1
    refine ae jm ?_
    refine ae CK ?_
    refine ae q1 ?_
    refine ae q2 ?_
    refine ae jm ?_
    refine ae CJ ?_
    refine ae q3 ?_
    refine ae q4 ?_
    rw[bg,i64_in (by omega) (by omega),aa,da,aa,aI]
    refine⟨fun _=>trivial,fun hz=>?_⟩
    have e0:t.q false=[]:=List.length_eq_zero_iff.1 (by omega)
    have e1:t.q true=[]:=List.length_eq_zero_iff.1 (by omega)
    have P0:=bo
    unfold aaO at P0
    rw[e0,e1]at P0
    refine ae jm ?_
    refine ae qO ?_
    refine ae (qM false) ?_
    refine ae (a.ldS k false) ?_
    refine ae jm ?_
    refine ae qO ?_
    refine ae (qM true) ?_
    refine ae (a.ldS k true) ?_
    refine aat.use (a.IV k false) (a.IV k true) (k.f false) (k.f true) P0.ab1 fun G125 c125=>?_
    rw[aN]
    have a2:=a.mv c125
    refine ae jm ?_
    refine ae qO ?_
    refine ae (qM true) ?_
    refine ae (a2.ldS k true) ?_
    refine ae jm ?_
    refine ae qO ?_
    refine ae (qM false) ?_
    refine ae (a2.ldS k false) ?_
    refine aat.use (a2.IV k true) (a2.IV k false) (k.f true) (k.f false) P0.swap.ab1 fun G135 c135=>?_
    rfl
  ·refine ae hsl ?_
   rw[bg,i64_in (by omega) (by omega),aa,aM,aa,dF_ (by omega),aK]
   exact last
  have next:J105 (.bool true) G13:=by
   simp -zeta only [J105,aN]
   obtain⟨F1,hF1⟩:=s13.get (i:=0) rfl
   obtain⟨va,vb,q1,q2,q3,q4⟩:=aaU hF1 k
   refine ae jm ?_
   refine ae CJ ?_
   refine ae q3 ?_
   refine ae q4 ?_
   rw[da,aa]
   refine ae (abx _) ?_
   have hdo:=abP (decide (0<(t.q true).length))
   have e39:(jj.av { jj.zero with kind:=5,side:=decide (((t.q true).length:Int) > 0) })=(abQ (decide (0<(t.q true).length))).av:=by
    have:decide (((t.q true).length:Int) > 0)=decide (0<(t.q true).length):=decide_eq_decide.2 (by omega)
    rw[this]
    rfl
   rw[e39]
   generalize abQ (decide (0<(t.q true).length))=o0 at hdo
   refine jL s13 kI (jj.fits hdo) (by rw[jj.sz hdo];rfl) jj.okv fun i40 G42 s42=>?_
   have s42:Sp [] G [au i40 o0.av,jP tb t] G42:=s42
   refine ae (GA (hro.cap.gZ.ch' s42.ch)) ?_
   rw[aM,aa]
   intro J103
   have step:∀ (o:jj) (G48:ak),o.ok->Sp [] G [au i40 o.av,jP tb t] G48->J103 G48:=by
    intro o G48 ho s48
    simp -zeta only [J103]
    refine ae (Oq.lJ (au.own (i:=0) s48 rfl) ho) ?_
    intro J102
    have go:J102 (.int .i64 (bI o.side)) G48:=by
     simp -zeta only [J102]
     refine ae (Oq.sj (au.own (i:=0) s48 rfl) ho) ?_
     rw[bB,aa]
     intro J101
     have end_:∀ (t':me) (G93:ak),Sp [] G [jP tb t'] G93->kK t' 10240->Few t'->aaO t'->J101 G93:=by
      intro t' G93 s93 k' fe' bo'
      simp -zeta only [J101]
      obtain⟨F2,hF2⟩:=s93.get (i:=0) rfl
      obtain⟨lv,wq,a⟩:=jP.at_ hF2
      refine ae jm ?_
      refine ae qO ?_
      refine ae (qM o.side) ?_
      refine ae (a.ldS k' o.side) ?_
      refine aau.use (a.IV k' o.side) (k'.f o.side) fun G99 c99=>?_
      rw[dx,aa,Bool.not_true,aK,bg,i64_in (by omega) (by omega),aa]
      exact ih (j+1) t' G99 (by omega) (s93.tmp c99) k' fe' bo'
     have hTG:=hT.mono s48.ro
     rw[aI]
     refine⟨fun h5=>?_,fun h5=>?_⟩
     ·refine ae abw ?_
      have s48':Sp [] G [jP tb t] G48:=s48.erase 0
      cases hq:t.q o.side with
      | nil=>
       obtain⟨F2,hF2⟩:=s48'.get (i:=0) rfl
       refine df.use hF2 k (by omega) jj.bq (fun _ G56 c56=>?_) fun m ms he=>?_
       ·refine ae (tv0 _ _) ?_
        refine ae (tv1 _ _) ?_
        refine Kz (s48'.tmp c56) cr.bq fun i59 G61 s61=>?_
        rw[aK]
        exact end_ t G61 (s61.erase 0) k aab bo
       ·rw[hq]at he
        cases he
      | cons m ms=>
       obtain⟨c1,c2,c3⟩:=abk bo hq
       have hm:=c3.ok
       refine s48'.call (i:=0) rfl (jP tb (oW t o.side ms)) fun F2 h2 kk=>?_
       refine df.use h2 k (by omega) jj.bq (fun he=>by rw[hq]at he;cases he) fun m' ms' he aam G56 h3 c3'=>?_
       rw[hq]at he
       injection he with e1 e2
       subst e1
       subst e2
       rw[abl hm]
       have s56:=kk aam G56 h3 c3'
       refine ae (tv0 _ _) ?_
       refine ae (tv1 _ _) ?_
       refine Kz s56 hm fun i59 G61 s61=>?_
       have s61:Sp [] G [au i59 m.av,jP tb (oW t o.side ms)] G61:=s61
       rw[aN]
       refine ae (gx (i:=0) s61 rfl hm).2.2.2.2.2.2.2.2 ?_
       have aad:=k.q o.side
       rw[hq]at aad
       have aaf:=k.n o.side
       rw[hq,List.length_cons]at aaf
       have k2:=vD k (s:=o.side) (Nat.le_refl _) (fun x hx=>aad x (List.mem_cons_of_mem _ hx)) (by omega)
       have fe2:Few (oW t o.side ms):=H2 aab (by rw[hq];simp)
       refine s61.call (i:=1) rfl (jP tb (sD (oW t o.side ms) o.side m).1) fun F4 h4 kk4=>?_
       refine aas.use (d:=t.c (!o.side)) (hT.mono s61.ro) h4 k2 (by omega) c3 fun F5 G64 h5 c5=>?_
       have s64:=kk4 F5 G64 h5 c5
       rw[dx,aa,Bool.not_true,aK]
       have fe3:=H4 k2 fe2 (s:=o.side) hm
       exact end_ _ G64 (s64.erase 0) (LN (H6 k2 hm) fe3) fe3 c2
     ·obtain⟨F2,hF2⟩:=s48.get (i:=1) rfl
      obtain⟨lv,wq,a⟩:=jP.at_ hF2
      refine ae jm ?_
      refine ae qP ?_
      refine ae (qN o.side) ?_
      refine ae (a.ldC k o.side) ?_
      refine ae jm ?_
      refine ae qO ?_
      refine ae (qM o.side) ?_
      refine ae (a.ldS k o.side) ?_
      refine ae (Oq.ld (au.own (i:=0) s48 rfl) ho) ?_
      refine bP.use (a.IV k o.side) fun wo wp wh G78 t78=>?_
      have s78:=s48.tmp t78.ch
      refine⟨⟨Oq.ld (au.own (i:=0) s78 rfl) ho,(a.mv t78.ch).ldC k o.side,trivial⟩,?_⟩
      have I:=k.f o.side
      refine aaw.use (ka.copy (i:=2) (j:=1) (k:=0) (a.IV k o.side) t78 rfl rfl rfl) I (k.c o.side) ho fun G80 c80=>?_
      have hcok:=EA I ho
      have hcf:=fun h0=>I.tF ho h0
      have hb2:=fun h0=>aby bo k ho (s:=o.side) h0
      have hf2:=fun h0=>JF k aab (s:=o.side) (o:=o) h0
      have hk2:=fun h0=>CR k (s:=o.side) hcok (hcf h0).1
      generalize lD (t.f o.side) o=X at hcok hcf hb2 hf2 hk2
      have s80:=s78.tmp c80
      refine ae (tr0 _) ?_
      refine ae (tr1 _) ?_
      refine Rc.nw s80 hcok bw.nil fun i83 G85 s85=>?_
      have s85:Sp [] G [au i83 (X.1.av .nilSlice),au i40 o.av,jP tb t] G85:=s85
      rw[bB,aa,aI]
      refine⟨fun h0=>?_,fun h0=>?_⟩
      ·refine ae (Rc.ld (au.own (i:=0) s85 rfl) hcok bw.nil) ?_
       refine s85.call (i:=2) rfl (jP tb (uD t o.side X.1 (tF (t.f o.side) o))) fun F4 h4 kk4=>?_
       refine aar.use (lu:=[]) h4 k (by omega) hcok bw.nil (.inr ⟨rfl,rfl⟩) (fun u hu=>by cases hu) (by simp) (hcf h0).2 (hcf h0).1 fun F5 G89 h5 c5=>?_
       have s89:=kk4 F5 G89 h5 c5
       rw[dx,aa,Bool.not_true,aK]
       exact end_ _ G89 ((s89.erase 0).erase 0) (LN (hk2 h0) (hf2 h0)) (hf2 h0) (hb2 h0)
      ·exact end_ t G85 ((s85.erase 0).erase 0) k aab bo
    cases hs:o.side with
    | false=>rw[hs]at go;rw[aK];exact go
    | true=>rw[hs]at go;rw[aN];exact go
   rw[aI]
   refine⟨fun hlt=>?_,fun hlt=>?_⟩
   ·obtain⟨o,ho⟩:∃ o,l[j]?=some o:=⟨_,List.getElem?_eq_getElem (by omega)⟩
    have hoo:=hok o (List.mem_of_getElem? ho)
    obtain⟨a,a1,a2⟩:=Lt (hro.cap.gZ.ch' s42.ch) ho
    refine ae a1 ?_
    refine ae a2 ?_
    refine fg (ig (c:=o.av) kI (au.own (i:=0) s42 rfl) (jj.fits hoo) (by rw[jj.sz hoo,jj.sz hdo]) jj.okv) ?_
    exact step o _ hoo (Sp.setRow (j:=0) s42 rfl o.av)
   ·exact step o0 G42 hdo s42
  refine ae hsl ?_
  rw[bg,i64_in (by omega) (by omega),aa,aM,aa,dT_ (by omega),aN]
  refine ae hsl ?_
  rw[aM,aa,aI]
  refine⟨fun _=>next,fun _=>?_⟩
  obtain⟨F1,hF1⟩:=s13.get (i:=0) rfl
  obtain⟨va,vb,q1,q2,q3,q4⟩:=aaU hF1 k
  refine ae jm ?_
  refine ae CK ?_
  refine ae q1 ?_
  refine ae q2 ?_
  refine ae jm ?_
  refine ae CJ ?_
  refine ae q3 ?_
  refine ae q4 ?_
  rw[bg,i64_in (by omega) (by omega),aa,da,aa]
  by_cases hz:((t.q false).length:Int)+((t.q true).length:Int) > 0
  ·rw[dT_ hz];exact next
  ·rw[dF_ hz];exact last
 exact loop (l.length+4096) 0 t0 G8 (by omega) s8 k0 f0 b0
end Go.Esc.M
