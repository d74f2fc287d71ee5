import Derived.Test.YtkojimdacnohpaaGreatDoorLYp
import Derived.Test.YtkojimdacnohpaaGreatDoorLYb
set_option maxHeartbeats 2000000
set_option linter.unusedSimpArgs false
set_option linter.unusedVariables false
set_option maxRecDepth 20000
namespace Go.Esc.M
open Go Go.Esc
def m2V (a b:cr):ah:=.agg [a.av,b.av]
def agW (a b:ah):ah:=.agg [a,b]
def wq (l:List cr):Nat:=(l.map fun m=>if m.kind=4 then 2 else 1).sum
theorem ahQ (a b:List cr):wq (a++b)=wq a+wq b:=by unfold wq;rw[List.map_append,List.sum_append]
theorem ahk (m:cr) (l:List cr):wq (m::l)=(if m.kind=4 then 2 else 1)+wq l:=rfl
theorem ag0 (l:List cr):l.length≤wq l/\wq l≤2*l.length:=by
 induction l with
 | nil=>exact⟨Nat.le_refl _,Nat.le_refl _⟩
 | cons m l ih=>
  rw[ahk,List.length_cons];split<;>omega
theorem ahP {c:CfM}{f:StF}{m:cr}(h0:0≤f.s.loc) (h1:f.s.loc≤281474976710653\/m.kind≠4):wq (abg c f m)+1≤(if m.kind=4 then 2 else 1):=by
 unfold abg;by_cases hu:isU m
 ·rw[if_pos hu];show 0+1≤_;split<;>omega
 ·rw[if_neg hu];by_cases h4:m.kind=4
  ·rw[if_pos h4,if_pos h4];have hk:(qC c f.s.loc).kind=5:=(by rw[aa2 h0 (h1.resolve_right fun h=>h h4)]);show (if (qC c f.s.loc).kind=4 then 2 else 1)+0+1≤2;rw[if_neg (by omega)];decide
  ·rw[if_neg h4,if_neg h4];show 0+1≤1;decide
def par (n:Nat):Bool:=decide (n % 2=1)
theorem ah9 (n:Nat):az T .and ay (.int .i64 (n:Int)) (.int .i64 1)=some (.int .i64 (bI (par n))):=by
 rw[aii (n:Int) 1 (m:=1) (M:=2) (by decide) rfl rfl];congr 2;unfold par;by_cases h:n % 2=1
 ·rw[dT_ h];show (n:Int) % 2=1;omega
 ·rw[dF_ h];show (n:Int) % 2=0;omega
theorem ahW (n:Nat):par (n+1)=!par n:=by
 unfold par;by_cases h:n % 2=1
 ·rw[dT_ h,dF_ (by omega)];rfl
 ·rw[dF_ h,dT_ (by omega)];rfl
def ahy (t:me) (n:Nat):Nat:=2*(wq (t.q false)+wq (t.q true))+(if (t.q (par n)).length=0 then 1 else 0)
section
variable {F0:List AId}{G0 G:ak}{ps:List LP}{Q:ah->ak->Prop}{x tb:AId}{t:me}{S:Bool->List cr}{v:Bool->ah}
theorem agS {n:Nat}{s:Bool}{y:ah}{q:List cr}{A B C D E:LP}{K:ak->Prop}(h:Sp F0 G0 [jP tb t,bm 70 y (q.map cr.av),A,B,C,D,E] G) (k:kK t n)
  (hK:∀ G',Sp F0 G0 [jP tb (oW t s q),A,B,C,D,E] G'->K G'):wg (aF T G bR (aQ tb s) y) K:=by
 obtain⟨l,w,h2⟩:=Sp.BS h;have hy:=(bm.own (i:=9) h2 rfl).leaf;refine DT k h2 s hy fun G' h3=>hK G' ?_;have h4:=bm.qu (i:=9) h3 rfl;cases s
 ·have h5:=Sp.pick h4 [0,1,2,3,4,5,6,9,8,10,11,12,13,14] (by decide) (by intro y hy;simp at hy ⊢;omega);exact Sp.qW (ps:=[A,B,C,D,E]) (t:=oW t false q) (l:=l) (w:=mg w false y) h5
 ·have h5:=Sp.pick h4 [0,1,2,3,4,5,6,7,9,10,11,12,13,14] (by decide) (by intro y hy;simp at hy ⊢;omega);exact Sp.qW (ps:=[A,B,C,D,E]) (t:=oW t true q) (l:=l) (w:=mg w true y) h5
theorem ahY {i:AId}{a b:cr}(ha:a.ok) (hb:b.ok) (hg:G i=some (.own (m2V a b))) (s:Bool):aO T agi (.ptr i [] 0) (.int .i64 (bI s))=some (.ptr i [bN s] (0+bN s*70))/\ag T G aW (.ptr i [bN s] (0+bN s*70))=some (bif s then b else a).av:=by
 have hss:[a.av,b.av].map Esc.sz=[70,70]:=by simp[cr.sz ha,cr.sz hb]
 refine⟨by cases s<;>rfl,?_⟩;cases s
 ·exact ld1 hg hss rfl rfl eQ (cr.fits ha)
 ·exact ld1 hg hss rfl rfl eQ (cr.fits hb)
theorem aid {i:AId}{a b m:cr}{j:Nat}{K:ak->Prop}(h:Sp F0 G0 ps G) (hj:ps[j]?=some (au i (m2V a b))) (ha:a.ok) (hb:b.ok) (hm:m.ok) (s:Bool)
  (hK:∀ G',Sp F0 G0 (ps.set j (au i (m2V (bif s then a else m) (bif s then m else b)))) G'->K G'):wg (aF T G aW (.ptr i [bN s] (0+bN s*70)) m.av) K:=by
 have hg:=au.own h hj;have hss:[a.av,b.av].map Esc.sz=[70,70]:=by simp[cr.sz ha,cr.sz hb]
 cases s
 ·exact fg (st1 hg hss rfl rfl eQ (cr.fits hm) (by rw[cr.sz ha,cr.sz hm]) (cr.okv m)) (hK _ (Sp.setRow h hj (m2V m b)))
 ·exact fg (st1 hg hss rfl rfl eQ (cr.fits hm) (by rw[cr.sz hb,cr.sz hm]) (cr.okv m)) (hK _ (Sp.setRow h hj (m2V a m)))
theorem ag1 {i:AId}{a b:ah}(ha:bw a) (hb:bw b) (hg:G i=some (.own (agW a b))) (s:Bool):aO T agc (.ptr i [] 0) (.int .i64 (bI s))=some (.ptr i [bN s] (0+bN s))/\ag T G bR (.ptr i [bN s] (0+bN s))=some (bif s then b else a):=by
 have hss:[a,b].map Esc.sz=[1,1]:=by simp[ha.1,hb.1]
 refine⟨by cases s<;>rfl,?_⟩;cases s
 ·exact ld1 hg hss rfl rfl gP (kF ha rfl)
 ·exact ld1 hg hss rfl rfl gP (kF hb rfl)
theorem ah7 {i:AId}{a b y:ah}{j:Nat}{K:ak->Prop}(h:Sp F0 G0 ps G) (hj:ps[j]?=some (au i (agW a b))) (ha:bw a) (hb:bw b) (hy:bw y) (s:Bool)
  (hK:∀ G',Sp F0 G0 (ps.set j (au i (agW (bif s then a else y) (bif s then y else b)))) G'->K G'):wg (aF T G bR (.ptr i [bN s] (0+bN s)) y) K:=by
 have hg:=au.own h hj;have hss:[a,b].map Esc.sz=[1,1]:=by simp[ha.1,hb.1]
 cases s
 ·exact fg (st1 hg hss rfl rfl gP (kF hy rfl) (by rw[ha.1,hy.1]) hy.2.2) (hK _ (Sp.setRow h hj (agW y b)))
 ·exact fg (st1 hg hss rfl rfl gP (kF hy rfl) (by rw[hb.1,hy.1]) hy.2.2) (hK _ (Sp.setRow h hj (agW a y)))
theorem ahz {F:List AId}{R:List ah->ak->Prop}(hc:∀ s,(t.c s).ok)
  (hR:∀ (x110 x111 x112:ah) (G109:ak),(wv (lr x111) fun v113=>wv (bt T bz v113 2) fun v114=>wv (ag T G109 bR v114) fun v115=>wv (fU T G109 bR v115) fun v116=>wv (lr x111) fun v117=>wv (bt T bz v117 3) fun v118=>wv (ag T G109 bR v118) fun v119=>wv (fU T G109 bR v119) fun v120=>wv (az T .add ay v116 v120) fun v121=>wv (az T .gtr ay v121 (.int .i64 0)) fun v122=>brB (some v122)
 (wv (az T .and ay x112 (.int .i64 1)) fun v123=>wv (lr x111) fun v124=>wv (bt T bz v124 2) fun v125=>wv (ag T G109 bR v125) fun v126=>wv (fU T G109 bR v126) fun v127=>wv (lr x111) fun v128=>wv (bt T bz v128 3) fun v129=>wv (ag T G109 bR v129) fun v130=>wv (fU T G109 bR v130) fun v131=>wv (bj T ja []) fun v132=>al P df.n [x111,v123,v132] G109 fun v133 G134=>wv (aP v133 0) fun v135=>wv (aP v133 1) fun v136=>br G134 (.own (jF)) fun i137 G138=>wg (aF T G138 aW (.ptr i137 [] 0) v135) fun G139=>wv (vun .not v136) fun v140=>brB (some v140)
 (wv (az T .add ay x112 (.int .i64 1)) fun v167=>R [x110,x111,v167] G139)
 (wv (az T .eql ay v123 (.int .i64 0)) fun v141=>brB (some v141)
 (wv (az T .sub ay v127 (.int .i64 1)) fun v142=>wv (ag T G139 aW (.ptr i137 [] 0)) fun v153=>al P acm.n [x111,v123,v153] G139 fun v154 G155=>wv (vun .not v154) fun v156=>brB (some v156)
 (Q (.bool false) G155)
 (al P af5.n [x110,v142,v131] G155 fun v157 G158=>wv (az T .add ay x112 (.int .i64 1)) fun v168=>R [x110,x111,v168] G158))
 (wv (az T .sub ay v131 (.int .i64 1)) fun v143=>wv (ag T G139 aW (.ptr i137 [] 0)) fun v159=>al P acm.n [x111,v123,v159] G139 fun v160 G161=>wv (vun .not v160) fun v162=>brB (some v162)
 (Q (.bool false) G161)
 (al P af5.n [x110,v127,v143] G161 fun v163 G164=>wv (az T .add ay x112 (.int .i64 1)) fun v169=>R [x110,x111,v169] G164))))
 (al P af8.n [x110] G109 fun v170 G171=>Q v170 G171))->R [x110,x111,x112] G109)
  (hQ:∀ t' S',t'.c=t.c->agw t' S'->∀ F' G',(age x tb t' S').p G' F'->Ch F G F' G'->Q (.bool true) G') :
  ∀ (M n:Nat) (t':me) (S':Bool->List cr) (G2:ak),t'.c=t.c->agw t' S'->ahy t' n≤M->n+M≤1000000->Sp F G [age x tb t' S'] G2->R [.ptr x [] 0,.ptr tb [] 0,.int .i64 (n:Int)] G2:=by
 intro M;induction M with
 | zero=>?_
 | succ M ih=>?_
 all_goals
  intro n t' S' G2 hcc T1 hM hnM s2;have hc':∀ s,(t'.c s).ok:=by rw[hcc];exact hc
  have k:=T1.tab hc';have hn0:=k.n false;have hn1:=k.n true;obtain⟨F1,hF1⟩:=s2.get (i:=0) rfl;obtain⟨v,s3⟩:=age.open hF1;have lA:=Sp.line (ps:=[]) s3;obtain⟨l,w,aiA⟩:=lA.tb;refine hR _ _ _ _ ?_;refine ae jm ?_;refine ae CK ?_;refine ae (aiA.ldQ k false) ?_;refine ae (Jf (aiA.q false).is) ?_;refine ae jm ?_;refine ae CJ ?_;refine ae (aiA.ldQ k true) ?_;refine ae (Jf (aiA.q true).is) ?_;rw[bg,i64_in (by omega) (by omega),aa,da,aa];have done:¬ ((t'.q false).length:Int)+((t'.q true).length:Int) > 0->al P af8.n [.ptr x [] 0] G2 fun v170 G171=>Q v170 G171:=by
   intro hz;have e0:t'.q false=[]:=List.length_eq_zero_iff.1 (by omega);have e1:t'.q true=[]:=List.length_eq_zero_iff.1 (by omega);have D:=T1;unfold agw at D;rw[e0,e1]at D;have m0:Sync (t'.f false) (t'.f true):=D.P.L.sync;have m1:Sync (t'.f true) (t'.f false):=D.P.M.sync;refine s2.call (i:=0) rfl (age x tb t' S') fun F2 h2 kk=>?_;refine af8.use h2 k m0 m1 fun aiH G3 h3 c3=>?_;obtain⟨F',q1,q2⟩:=(kk aiH G3 h3 c3).out;exact hQ t' S' hcc T1 F' G3 q1 q2
 ·have hw0:=ag0 (t'.q false);have hw1:=ag0 (t'.q true);unfold ahy at hM;have hz:¬ ((t'.q false).length:Int)+((t'.q true).length:Int) > 0:=by omega
  rw[dF_ hz,aK];exact done hz
 by_cases hz:((t'.q false).length:Int)+((t'.q true).length:Int) > 0
 ·rw[dT_ hz,aN];refine ae (ah9 n) ?_;obtain⟨p,hp⟩:∃ p,p=par n:=⟨_,rfl⟩;rw[<- hp];refine ae jm ?_;refine ae CK ?_;refine ae (aiA.ldQ k false) ?_;refine ae (Jf (aiA.q false).is) ?_;refine ae jm ?_;refine ae CJ ?_;refine ae (aiA.ldQ k true) ?_;refine ae (Jf (aiA.q true).is) ?_;refine ae abw ?_;have hpn:=ahW n;rw[<- hp]at hpn;have hw0:=ag0 (t'.q false);have hw1:=ag0 (t'.q true);cases hq:t'.q p with
  | nil=>
   refine s2.call (i:=0) rfl (age x tb t' S') fun F2 h2 kk=>?_;obtain⟨v2,s4⟩:=age.open h2;obtain⟨aiH,hF3⟩:=s4.get (i:=3) rfl;refine df.use hF3 k (by omega) jj.bq (fun _ G134 c134=>?_) fun m ms he=>?_
   ·refine ae (tv0 _ _) ?_;refine ae (tv1 _ _) ?_;have s134:=s2.tmp c134;refine Kz s134 cr.bq fun i137 G139 s139=>?_;rw[dx,aa,Bool.not_false,aN,bg,i64_in (by omega) (by omega),aa];refine ih (n+1) t' S' G139 hcc T1 ?_ (by omega) (s139.erase 0);unfold ahy at hM ⊢;rw[<- hp,hq,if_pos (by rfl)]at hM;rw[hpn,if_neg]
    ·omega
    ·intro h0;cases p with
     | false=>
      have:(t'.q true).length=0:=h0;rw[hq]at hz;simp at hz;omega
     | true=>
      have:(t'.q false).length=0:=h0;rw[hq]at hz;simp at hz;omega
   ·rw[hq]at he;cases he
  | cons m q=>
   obtain⟨ht,he,T2⟩:=ag5 T1 hc' hq;have hm:=ht.ok;have I:=(T1.at_ p).P.I;have aag:=k.q p;rw[hq]at aag;have aam:=k.n p;rw[hq,List.length_cons]at aam;have k2:=vD k (s:=p) (Nat.le_refl _) (fun x hx=>aag x (List.mem_cons_of_mem _ hx)) (by omega);have adY:=T2.tab hc';refine s2.call (i:=0) rfl (age x tb (oW t' p q) S') fun F2 h2 kk=>?_;obtain⟨v2,s4⟩:=age.open h2;refine s4.call (i:=3) rfl (jP tb (oW t' p q)) fun aiH h3 kk3=>?_;refine df.use h3 k (by omega) jj.bq (fun he=>by rw[hq]at he;cases he) fun m' ms' he2 F4 G134 h4 c4=>?_;rw[hq]at he2;injection he2 with e1 e2;subst e1;subst e2;rw[abl hm];obtain⟨F5,h5,c5⟩:=age.close (kk3 F4 G134 h4 c4);have s134:=kk F5 G134 h5 c5;refine ae (tv0 _ _) ?_;refine ae (tv1 _ _) ?_;refine Kz s134 hm fun i137 G139 s139=>?_;have s139:Sp F G [au i137 m.av,age x tb (oW t' p q) S'] G139:=s139;rw[dx,aa,Bool.not_true,aK];obtain⟨t2,ht2⟩:∃ t2,t2=agU t' p (rcv (t'.f p) m) q (abg (t'.c p) (t'.f p) m):=⟨_,rfl⟩;rw[<- ht2]at he T2 adY;have hcc2:t2.c=t.c:=(by rw[ht2];exact hcc);have hlc:(t'.f p).s.loc≤281474976710653\/m.kind≠4:=by
    by_cases h4:m.kind=4
    ·obtain⟨_,_,hs',_,_,hix⟩:=I.came (c:=t'.c p) ht.ok (ht.came h4);have:=hs'.loc1;have:m.index≤281474976710654:=this;exact .inl (by omega)
    ·exact .inr h4
   have hrw:=ahP (c:=t'.c p) (f:=t'.f p) (m:=m) I.loc0 hlc;have hmeas:ahy t2 (n+1)≤M:=by
    unfold ahy at hM ⊢;rw[<- hp,hq,if_neg (by simp)]at hM;have hsum:wq (t2.q false)+wq (t2.q true)+1≤wq (t'.q false)+wq (t'.q true):=by
     rw[ht2];cases p with
     | false=>
      show wq q+wq (t'.q true++abg (t'.c false) (t'.f false) m)+1≤wq (t'.q false)+wq (t'.q true);rw[hq,ahQ,ahk];omega
     | true=>
      show wq (t'.q false++abg (t'.c true) (t'.f true) m)+wq q+1≤wq (t'.q false)+wq (t'.q true);rw[hq,ahQ,ahk];omega
    split<;>omega
   have tail:∀ (a b:Nat),(bif p then a else b)=(t'.q (!p)).length->(bif p then b else a)=q.length->(wv (ag T G139 aW (.ptr i137 [] 0)) fun v153=>al P acm.n [.ptr tb [] 0,.int .i64 (bI p),v153] G139 fun v154 G155=>wv (vun .not v154) fun v156=>brB (some v156)
     (Q (.bool false) G155)
     (al P af5.n [.ptr x [] 0,.int .i64 (a:Int),.int .i64 (b:Int)] G155 fun v157 G158=>wv (az T .add ay (.int .i64 (n:Int)) (.int .i64 1)) fun v168=>R [.ptr x [] 0,.ptr tb [] 0,v168] G158)):=by
    intro a b hab hba;refine ae (gx (i:=0) s139 rfl hm).2.2.2.2.2.2.2.2 ?_;refine s139.call (i:=1) rfl (age x tb t2 S') fun aiI h6 kk6=>?_;obtain⟨v6,s6⟩:=age.open h6;refine s6.call (i:=3) rfl (jP tb t2) fun aiJ h7 kk7=>?_;refine acm.use h7 k2 (by omega) hm fun F8 G155 h8 c8=>?_;rw[he]at h8 ⊢;obtain⟨F9,h9,c9⟩:=age.close (kk7 F8 G155 h8 c8);have s155:=kk6 F9 G155 h9 c9;rw[dx,aa,Bool.not_true,aK];have s155:Sp F G [age x tb t2 S'] G155:=s155.erase 0;have hns:agu t2 S' a b=mg S' p (S' p++abg (t'.c p) (t'.f p) m):=(by rw[ht2];exact ahc hab hba);have hqp:t2.q p=q:=by
     rw[ht2];show mg (mg t'.q p q) (!p) _ p=q;rw[qF _ _ (by cases p<;>decide),ox]
    have hqn:(t2.q (!p)).length=(t'.q (!p)).length+(abg (t'.c p) (t'.f p) m).length:=by
     rw[ht2];show (mg (mg t'.q p q) (!p) (t'.q (!p)++abg (t'.c p) (t'.f p) m) (!p)).length=_;rw[ox,List.length_append]
    have hla:a≤(t2.q false).length/\b≤(t2.q true).length:=by
     cases p with
     | false=>
      have h1:b=(t'.q true).length:=hab;have h2:a=q.length:=hba;have h3:(t2.q true).length=(t'.q true).length+(abg (t'.c false) (t'.f false) m).length:=hqn;rw[hqp];omega
     | true=>
      have h1:a=(t'.q false).length:=hab;have h2:b=q.length:=hba;have h3:(t2.q false).length=(t'.q false).length+(abg (t'.c true) (t'.f true) m).length:=hqn;rw[hqp];omega
    refine s155.call (i:=0) rfl (age x tb t2 (agu t2 S' a b)) fun F10 h10 kk10=>?_;refine af5.use h10 adY (by decide) (fun s=>by have:=T1.len s;omega) hla.1 hla.2 fun F11 G158 h11 c11=>?_;have s158:=kk10 F11 G158 h11 c11;rw[hns]at s158;rw[bg,i64_in (by omega) (by omega),aa];exact ih (n+1) t2 _ G158 hcc2 T2 hmeas (by omega) s158
   cases p with
   | false=>
    have hq':t'.q false=m::q:=hq;rw[show az T .eql ay (.int .i64 (bI false)) (.int .i64 0)=some (.bool true) from rfl,aa,aN,b7,i64_in (by omega) (by omega),aa];have:=tail q.length (t'.q true).length rfl rfl;rw[hq',List.length_cons,show (((q.length+1:Nat):Int)-1)=(q.length:Int) by omega];exact this
   | true=>
    have hq':t'.q true=m::q:=hq;rw[show az T .eql ay (.int .i64 (bI true)) (.int .i64 0)=some (.bool false) from rfl,aa,aK,b7,i64_in (by omega) (by omega),aa];have:=tail (t'.q false).length q.length rfl rfl;rw[hq',List.length_cons,show (((q.length+1:Nat):Int)-1)=(q.length:Int) by omega];exact this
 ·rw[dF_ hz,aK];exact done hz
end
end Go.Esc.M
namespace Go.Esc.M
open Go Go.Esc
section
variable {F0:List AId}{G0 G:ak}{ps:List LP}{Q:ah->ak->Prop}{x tb:AId}{t:me}{S:Bool->List cr}{v:Bool->ah}
def agG (t:me):me:=kq (kq (oW (oW t false []) true []) false (agf (t.f false))) true (agf (t.f true))
theorem aic {n:Nat}(k:kK t n):kK (agG t) n:=
 sT (sT (vD (vD k (Nat.le_refl _) (fun m hm=>by cases hm) (Nat.zero_le _)) (Nat.le_refl _) (fun m hm=>by cases hm) (Nat.zero_le _)) (agF (k.f false))) (agF (k.f true))
theorem ah3 (s:Bool):(agG t).f s=agf (t.f s):=by cases s<;>rfl
theorem aie:agt=agW .nilSlice .nilSlice:=rfl
theorem aih:ago=m2V cr.zero cr.zero:=rfl
theorem af9.use {F:List AId}(hT:Tab G) (h:(age x tb t S).p G F) (hc:∀ s,(t.c s).ok) (T0:agw t S)
  (hQ:∀ t' S',t'.c=t.c->agw t' S'->∀ F' G',(age x tb t' S').p G' F'->Ch F G F' G'->Q (.bool true) G'):al P af9.n [.ptr x [] 0] G Q:=by
 refine af9.sound ?_;unfold af9.S;have k:=T0.tab hc;have ad1:=aic k;obtain⟨o0,o1,d0,d1,T1⟩:=Duo.join T0;have aae:∀ s,iY (t.f s):=k.f;obtain⟨aiq,hou⟩:∃ aiq:Bool->List cr,aiq=fun s=>bif s then o1 else o0:=⟨_,rfl⟩;have eo0:aiq false=o0:=by rw[hou];rfl
 have eo1:aiq true=o1:=by rw[hou];rfl
 have told:∀ s,Told (t.c s) (t.c (!s)) (t.f s) (t.f (!s)) (aiq s):=by
  intro s;cases s
  ·rw[eo0];exact d0
  ·rw[eo1];exact d1
 have hans:∀ s,acz (t.c s) (agf (t.f s)) (acG (agf (t.f (!s))))=(aiq s,0):=fun s=>(told s).answer (aae s) (aae (!s)) (T0.at_ s).P.H (hc s).seed;have hmem:∀ s,∀ m∈aiq s,m∈S s:=fun s=>(told s).mem (aae (!s)) (T0.at_ s).A;have hnod:∀ s,(aiq s).Pairwise (·≠·):=fun s=>(told s).nodup (aae s) (aae (!s));have hlen:∀ s,(aiq s).length≤2051:=fun s=>by have:=(told s).len (aae s);have:=(aae s).lo;omega
 have hSok:∀ s,∀ m∈S s,m.ok:=fun s=>(T0.at_ s).A.ok;have hook:∀ s,∀ m∈aiq s,m.ok:=fun s m hm=>hSok s m (hmem s m hm);have hSlen:∀ s,(S s).length≤10240:=T0.len;obtain⟨v,s0⟩:=age.open h;have lA:=Sp.line (ps:=[]) s0;have lv0':bw (v false):=lA.lv false;have lv1':bw (v true):=lA.lv true;refine ae agh ?_;refine ae agr ?_;refine ae lA.ldT ?_;refine ae jm ?_;refine ae CK ?_;have p0:=(((s0.nz 70).nz 70).nz 70).nz 70;have p1:Sp F G [jP tb t,bm 70 .nilSlice (([]:List cr).map cr.av),au x (agn tb v),bm 70 (v false) ((S false).map cr.av),bm 70 (v true) ((S true).map cr.av),bm 70 .nilSlice [],bm 70 .nilSlice []] G:=Sp.pick p0 [7,0,4,5,6,1,2] (by decide) (by intro y hy;simp at hy ⊢;omega);refine agS (s:=false) (q:=[]) p1 k fun G6 s6=>?_;refine ae jm ?_;refine ae CJ ?_;have aag:=vD k (s:=false) (q:=[]) (Nat.le_refl _) (fun m hm=>by cases hm) (Nat.zero_le _);have p2:=s6.nz 70;have p3:Sp F G [jP tb (oW t false []),bm 70 .nilSlice (([]:List cr).map cr.av),au x (agn tb v),bm 70 (v false) ((S false).map cr.av),bm 70 (v true) ((S true).map cr.av),bm 70 .nilSlice [],bm 70 .nilSlice []] G6:=Sp.pick p2 [1,0,2,3,4,5,6] (by decide) (by intro y hy;simp at hy ⊢;omega);refine agS (s:=true) (q:=[]) p3 aag fun G9 s9'=>?_;have s9:Sp F G [jP tb (oW (oW t false []) true []),au x (agn tb v),bm 70 (v false) ((S false).map cr.av),bm 70 (v true) ((S true).map cr.av)] G9:=s9'.take 4;have kq2:=vD aag (s:=true) (q:=[]) (Nat.le_refl _) (fun m hm=>by cases hm) (Nat.zero_le _);obtain⟨t2,ht2⟩:∃ t2,t2=oW (oW t false []) true []:=⟨_,rfl⟩;have ef2:∀ s,t2.f s=t.f s:=fun s=>by rw[ht2];rfl
 rw[<- ht2]at s9 kq2;obtain⟨F1,hF1⟩:=s9.get (i:=0) rfl;obtain⟨l,w,aiA⟩:=jP.at_ hF1;refine ae jm ?_;refine ae qO ?_;refine ae (qM false) ?_;refine ae (aiA.ldS kq2 false) ?_;refine ae jm ?_;refine ae qO ?_;refine ae (qM true) ?_;refine ae (aiA.ldS kq2 true) ?_;refine ae jm ?_;refine ae qO ?_;refine ae jm ?_;refine ae qO ?_;refine fL.use (aiA.IV kq2 false) fun wo wp wh G23 t23=>?_;have s23:=u9 s9 t23;refine⟨⟨(aiA.mv t23.ch).ldS kq2 true,trivial⟩,?_⟩;refine fL.use ((aiA.mv t23.ch).IV kq2 true) fun yo yp yh G25 t25=>?_;have s25:=u9 s23 t25;rw[ef2 false]at s25;rw[ef2 true]at s25;have s25:Sp F G [bm 34 yh ((t.f true).h.map b6.av),bm 36 yp ((cw (t.f true).p (t.f true).s.atB).map aL.av),bm 36 yo ((t.f true).o.map aL.av),bm 34 wh ((t.f false).h.map b6.av),bm 36 wp ((cw (t.f false).p (t.f false).s.atB).map aL.av),bm 36 wo ((t.f false).o.map aL.av),jP tb t2,au x (agn tb v),bm 70 (v false) ((S false).map cr.av),bm 70 (v true) ((S true).map cr.av)] G25:=s25;have lx:Ls.lv ⟨wo,wp,wh⟩:=⟨(bm.own (i:=5) s25 rfl).leaf,(bm.own (i:=4) s25 rfl).leaf,(bm.own (i:=3) s25 rfl).leaf⟩;have ly:Ls.lv ⟨yo,yp,yh⟩:=⟨(bm.own (i:=2) s25 rfl).leaf,(bm.own (i:=1) s25 rfl).leaf,(bm.own (i:=0) s25 rfl).leaf⟩;rw[ef2 false,ef2 true];refine ae (qM false) ?_;have p25:Sp F G [jP tb t2,bm 34 yh ((t.f true).h.map b6.av),bm 36 yp ((cw (t.f true).p (t.f true).s.atB).map aL.av),bm 36 yo ((t.f true).o.map aL.av),bm 34 wh ((t.f false).h.map b6.av),bm 36 wp ((cw (t.f false).p (t.f false).s.atB).map aL.av),bm 36 wo ((t.f false).o.map aL.av),au x (agn tb v),bm 70 (v false) ((S false).map cr.av),bm 70 (v true) ((S true).map cr.av)] G25:=Sp.pick s25 [6,0,1,2,3,4,5,7,8,9] (by decide) (by intro y hy;simp at hy ⊢;omega);obtain⟨l',w',S25⟩:=Sp.BS p25;refine DS kq2 S25 false (f:=agf (t.f false)) (aae false).ok (x:=⟨wo,wp,wh⟩) lx fun G27 s27=>?_;have s27:=DR (f:=agf (t.f false)) (x:=⟨wo,wp,wh⟩) (i:=5) (j:=4) (m:=3) (xs:=[0,1,2,6,7,8]) s27 rfl rfl rfl (by decide) (by intro y hy;simp at hy ⊢;omega);have s27:Sp F G [jP tb (kq t2 false (agf (t.f false))),bm 34 yh ((t.f true).h.map b6.av),bm 36 yp ((cw (t.f true).p (t.f true).s.atB).map aL.av),bm 36 yo ((t.f true).o.map aL.av),au x (agn tb v),bm 70 (v false) ((S false).map cr.av),bm 70 (v true) ((S true).map cr.av)] G27:=s27;have aal:=sT kq2 (s:=false) (agF (aae false));refine ae (qM true) ?_;obtain⟨l3,w3,S27⟩:=Sp.BS s27;refine DS aal S27 true (f:=agf (t.f true)) (aae true).ok (x:=⟨yo,yp,yh⟩) ly fun G29 s29=>?_;have s29:=DR (f:=agf (t.f true)) (x:=⟨yo,yp,yh⟩) (i:=2) (j:=1) (m:=0) (xs:=[3,4,5]) s29 rfl rfl rfl (by decide) (by intro y hy;simp at hy ⊢;omega);have eb:kq (kq t2 false (agf (t.f false))) true (agf (t.f true))=agG t:=by rw[ht2];rfl
 rw[eb]at s29;have s29:Sp F G [jP tb (agG t),au x (agn tb v),bm 70 (v false) ((S false).map cr.av),bm 70 (v true) ((S true).map cr.av)] G29:=s29;have aac:(agG t).c=t.c:=rfl;obtain⟨hi,hhi⟩:∃ hi:Bool->cr,hi=fun s=>acG (agf (t.f s)):=⟨_,rfl⟩;have hzo:=cr.bq;rw[aih];intro i30 f30;have s31:=s29.row f30 (m2V cr.zero cr.zero);revert s31;generalize ak.upd _ i30 _=G31;intro s31;have hTb:∀ {G2:ak}{ps:List LP},Sp F G ps G2->Tab G2:=fun sp=>hT.mono sp.ro;intro R32 hR32;have hello:∀ (s:Bool) (a b:cr) (G33:ak),a.ok->b.ok->Sp F G [au i30 (m2V a b),jP tb (agG t),au x (agn tb v),bm 70 (v false) ((S false).map cr.av),bm 70 (v true) ((S true).map cr.av)] G33 ->
   (∀ G',(hi s).ok->Sp F G [au i30 (m2V (bif s then a else hi s) (bif s then hi s else b)),jP tb (agG t),au x (agn tb v),bm 70 (v false) ((S false).map cr.av),bm 70 (v true) ((S true).map cr.av)] G'->R32 [.ptr x [] 0,.ptr tb [] 0,.ptr i30 [] 0,.int .i64 (bI s+1)] G')->R32 [.ptr x [] 0,.ptr tb [] 0,.ptr i30 [] 0,.int .i64 (bI s)] G33:=by
  intro s a b G33 ha hb s33 next
  obtain⟨F2,hF2⟩:=s33.get (i:=1) rfl;obtain⟨l,w,aiA⟩:=jP.at_ hF2;refine hR32 _ _ _ _ _ ?_;rw[aM,aa,dT_ (by cases s<;>decide),aN];refine ae jm ?_;refine ae qP ?_;refine ae (qN s) ?_;refine ae (aiA.ldC ad1 s) ?_;refine ae jm ?_;refine ae qO ?_;refine ae (qM s) ?_;refine ae (aiA.ldS ad1 s) ?_;refine bP.use (aiA.IV ad1 s) fun zo aiE zh G48 t48=>?_;have s48:=s33.tmp t48.ch;refine⟨⟨(aiA.mv t48.ch).ldC ad1 s,trivial⟩,?_⟩;have hSC:=ka.copy (i:=2) (j:=1) (k:=0) (aiA.IV ad1 s) t48 rfl rfl rfl;have hho:=ac7 hSC;refine acv.use (hTb s48) hSC (ad1.c s) fun G50 c50=>?_;have s50:=s48.tmp c50;have ehi:acG ((agG t).f s)=hi s:=by rw[hhi,ah3]
  rw[ehi]at hho ⊢;refine ae (ahY ha hb (au.own (i:=0) s50 rfl) s).1 ?_;refine aid (j:=0) s50 rfl ha hb hho s fun G52 s52=>?_;rw[bg,aa,show IntKind.i64.wrap (bI s+1)=bI s+1 by cases s<;>rfl];exact next G52 hho s52
 refine hello false _ _ G31 hzo hzo s31 fun G32a hk0 s32a=>?_;refine hello true _ _ G32a hk0 hzo s32a fun G33 hk1 s33=>?_;have s33:Sp F G [au i30 (m2V (hi false) (hi true)),jP tb (agG t),au x (agn tb v),bm 70 (v false) ((S false).map cr.av),bm 70 (v true) ((S true).map cr.av)] G33:=s33;refine hR32 _ _ _ _ _ ?_;rw[aM,aa,dF_ (by decide),aK];have hhk:∀ s,(hi s).ok:=fun s=>by cases s;exact hk0;exact hk1
 rw[aie];intro i54 f54;have s55:=s33.row f54 (agW .nilSlice .nilSlice);revert s55;generalize ak.upd _ i54 _=G55;intro s55;intro R56 hR56;have answer:∀ (s:Bool) (a b:ah) (W:LP) (G57:ak),bw a->bw b->Sp F G [au i54 (agW a b),au i30 (m2V (hi false) (hi true)),jP tb (agG t),au x (agn tb v),bm 70 (v false) ((S false).map cr.av),bm 70 (v true) ((S true).map cr.av),W] G57 ->
   (∀ y G',bw y->Sp F G [bm 70 y ((aiq s).map cr.av),au i54 (agW (bif s then a else y) (bif s then y else b)),au i30 (m2V (hi false) (hi true)),jP tb (agG t),au x (agn tb v),bm 70 (v false) ((S false).map cr.av),bm 70 (v true) ((S true).map cr.av),W] G'->R56 [.ptr x [] 0,.ptr tb [] 0,.ptr i30 [] 0,.ptr i54 [] 0,.int .i64 (bI s+1)] G')->R56 [.ptr x [] 0,.ptr tb [] 0,.ptr i30 [] 0,.ptr i54 [] 0,.int .i64 (bI s)] G57:=by
  intro s a b W G57 ha hb s57 next
  obtain⟨F2,hF2⟩:=s57.get (i:=2) rfl;obtain⟨l,w,aiA⟩:=jP.at_ hF2;refine hR56 _ _ _ _ _ _ ?_;rw[aM,aa,dT_ (by cases s<;>decide),aN];refine ae jm ?_;refine ae qP ?_;refine ae (qN s) ?_;refine ae (aiA.ldC ad1 s) ?_;refine ae jm ?_;refine ae qO ?_;refine ae (qM s) ?_;refine ae (aiA.ldS ad1 s) ?_;refine ae (v:=.int .i64 (bI (!s))) (by cases s<;>rfl) ?_;have hg:=au.own (i:=1) s57 rfl;refine ae (ahY hk0 hk1 hg (!s)).1 ?_;have hld:∀ {G2:ak},G2 i30=some (.own (m2V (hi false) (hi true)))->ag T G2 aW (.ptr i30 [bN (!s)] (0+bN (!s)*70))=some (hi (!s)).av:=by
   intro G2 hg2;rw[(ahY hk0 hk1 hg2 (!s)).2];cases s<;>rfl
  refine ae (hld hg) ?_;refine bP.use (aiA.IV ad1 s) fun zo aiE zh G76 t76=>?_;have s76:=s57.tmp t76.ch;refine⟨⟨hld (au.own (i:=1) s76 rfl),(aiA.mv t76.ch).ldC ad1 s,trivial⟩,?_⟩;have hSC:=ka.copy (i:=2) (j:=1) (k:=0) (aiA.IV ad1 s) t76 rfl rfl rfl;refine ach.use hSC (ad1.c s) (hhk (!s)) fun y G78 t78=>?_;have ea:acz ((agG t).c s) ((agG t).f s) (hi (!s))=(aiq s,0):=by
   rw[ah3,hhi];exact hans s
  rw[ea]at t78 ⊢;have s78:=u9 s76 t78;have s78:Sp F G [bm 70 y ((aiq s).map cr.av),au i54 (agW a b),au i30 (m2V (hi false) (hi true)),jP tb (agG t),au x (agn tb v),bm 70 (v false) ((S false).map cr.av),bm 70 (v true) ((S true).map cr.av),W] G78:=s78;have hy:=(bm.own (i:=0) s78 rfl);refine ae (tv0 _ _) ?_;refine ae (tv1 _ _) ?_;rw[cD,aa,dC];refine⟨fun hne=>absurd rfl hne,fun _=>?_⟩;have hv0:=bm.own (i:=5) s78 rfl;have hv1:=bm.own (i:=6) s78 rfl;have hgx:=au.own (i:=4) s78 rfl;have hss:[ah.ptr tb [] 0,.agg [v false,v true]].map Esc.sz=[1,2]:=by simp[Esc.sz,szs,lv0'.1,lv1'.1]
  have hss2:[v false,v true].map Esc.sz=[1,1]:=by simp[lv0'.1,lv1'.1]
  have hldS:ag T G78 bR (.ptr x [1,bN s] (1+bN s))=some (v s):=by
   cases s
   ·exact ld2 hgx hss rfl rfl hss2 rfl rfl rfl gP (kF lv0' rfl)
   ·exact ld2 hgx hss rfl rfl hss2 rfl rfl rfl gP (kF lv1' rfl)
  have hvs:ff 70 G78 (v s) ((S s).map cr.av):=by cases s;exact hv0.is;exact hv1.is
  refine ae agh ?_;refine ae agX ?_;refine ae (agY s) ?_;refine ae hldS ?_;refine agd.use hvs hy.is (hSok s) (hook s) (by have:=hSlen s;omega) (by have:=hlen s;omega) (hmem s) (hnod s) ?_;rw[dx,aa,Bool.not_true,aK];refine ae (ag1 ha hb (au.own (i:=1) s78 rfl) s).1 ?_;refine ah7 (j:=1) s78 rfl ha hb hy.leaf s fun G94 s94=>?_;rw[bg,aa,show IntKind.i64.wrap (bI s+1)=bI s+1 by cases s<;>rfl];exact next y G94 hy.leaf s94
 have q0:=s55.nz 70;have q1:Sp F G [au i54 (agW .nilSlice .nilSlice),au i30 (m2V (hi false) (hi true)),jP tb (agG t),au x (agn tb v),bm 70 (v false) ((S false).map cr.av),bm 70 (v true) ((S true).map cr.av),bm 70 .nilSlice []] G55:=Sp.pick q0 [1,2,3,4,5,6,0] (by decide) (by intro y hy;simp at hy ⊢;omega);refine answer false _ _ _ G55 bw.nil bw.nil q1 fun y0 G57 hy0 s57=>?_;have q2:Sp F G [au i54 (agW y0 .nilSlice),au i30 (m2V (hi false) (hi true)),jP tb (agG t),au x (agn tb v),bm 70 (v false) ((S false).map cr.av),bm 70 (v true) ((S true).map cr.av),bm 70 y0 ((aiq false).map cr.av)] G57:=Sp.pick s57 [1,2,3,4,5,6,0] (by decide) (by intro y hy;simp at hy ⊢;omega);refine answer true _ _ _ G57 hy0 bw.nil q2 fun y1 G58 hy1 s58=>?_;have s58:Sp F G [bm 70 y1 ((aiq true).map cr.av),au i54 (agW y0 y1),au i30 (m2V (hi false) (hi true)),jP tb (agG t),au x (agn tb v),bm 70 (v false) ((S false).map cr.av),bm 70 (v true) ((S true).map cr.av),bm 70 y0 ((aiq false).map cr.av)] G58:=s58;refine hR56 _ _ _ _ _ _ ?_;rw[aM,aa,dF_ (by decide),aK];have hgo:=au.own (i:=1) s58 rfl;refine ae (ag1 hy0 hy1 hgo false).1 ?_;refine ae (ag1 hy0 hy1 hgo false).2 ?_;refine ae (ag1 hy0 hy1 hgo true).1 ?_;refine ae (ag1 hy0 hy1 hgo true).2 ?_;refine ae jm ?_;refine ae CJ ?_;have q3:Sp F G [jP tb (agG t),bm 70 y0 ((aiq false).map cr.av),au x (agn tb v),bm 70 (v false) ((S false).map cr.av),bm 70 (v true) ((S true).map cr.av),au i54 (agW y0 y1),bm 70 y1 ((aiq true).map cr.av)] G58:=Sp.pick s58 [3,7,4,5,6,1,0] (by decide) (by intro y hy;simp at hy ⊢;omega);refine agS (s:=true) (q:=aiq false) q3 ad1 fun G104 s104=>?_;refine⟨⟨(ag1 hy0 hy1 (au.own (i:=4) s104 rfl) true).2,trivial⟩,?_⟩;refine ae jm ?_;refine ae CK ?_;have aaj:=vD ad1 (s:=true) (q:=aiq false) (Nat.le_refl _) (hook false) (by have:=hlen false;omega);have q4:=(s104.nz 70).nz 70;have q5:Sp F G [jP tb (oW (agG t) true (aiq false)),bm 70 y1 ((aiq true).map cr.av),au x (agn tb v),bm 70 (v false) ((S false).map cr.av),bm 70 (v true) ((S true).map cr.av),bm 70 .nilSlice [],bm 70 .nilSlice []] G104:=Sp.pick q4 [2,7,3,4,5,0,1] (by decide) (by intro y hy;simp at hy ⊢;omega);refine agS (s:=false) (q:=aiq true) q5 aaj fun G107 s107=>?_;obtain⟨t5,ht5⟩:∃ t5,t5=oW (oW (agG t) true (aiq false)) false (aiq true):=⟨_,rfl⟩;have T5:agw t5 S:=by
  rw[ht5];show Duo (t.c false) (t.c true) (agf (t.f false)) (agf (t.f true)) (aiq true) (aiq false) (S false) (S true);rw[eo0,eo1];exact T1
 have ec5:t5.c=t.c:=by rw[ht5];rfl
 rw[<- ht5]at s107;have s107:Sp F G [au x (agn tb v),bm 70 (v false) ((S false).map cr.av),bm 70 (v true) ((S true).map cr.av),jP tb t5] G107:=Sp.pick s107 [1,2,3,0] (by decide) (by intro y hy;simp at hy ⊢;omega);obtain⟨F9,h9,c9⟩:=age.close s107;have s108:Sp F G [age x tb t5 S] G107:=Sp.one h9 c9;intro R108 hR108;have hc5:∀ s,(t5.c s).ok:=by rw[ec5];exact hc
 have k5:=T5.tab hc5;have hm5:ahy t5 0≤100000:=by
  have h1:=ag0 (t5.q false);have h2:=ag0 (t5.q true);have h3:=k5.n false;have h4:=k5.n true;unfold ahy;split<;>omega
 exact ahz (t:=t5) (x:=x) (tb:=tb) hc5 hR108 (fun t' S' e T' F' G' h1 h2=>hQ t' S' (e.trans ec5) T' F' G' h1 h2) 100000 0 t5 S G107 rfl T5 hm5 (by decide) s108
end
end Go.Esc.M
namespace Go.Esc.M
open Go Go.Esc
theorem ahC {tb:AId}:bj T af6 [(0,.ptr tb [] 0)]=some (agn tb fun _=>.nilSlice):=rfl
theorem ahU {G:ak}{v:ah}{l:List jj}{j:Nat}{u:jj}(h:ff 38 G v (l.map jj.av)) (hj:l[j]?=some u):∃ a b,aO T jd v (.int .i64 (j:Int))=some a/\bt T ja a 0=some b/\ag T G ay b=some (.int .i64 u.kind):=
 ff.fld (k:=.i64) (cs:=u.cs) nV rfl kI (fs:=[(ay,0),(du,1),(aq,2),(aq,3),(ar,4),(bH,36),(aq,37)]) (f:=0) (o:=0) rfl rfl iD (by decide) h (by rw[List.getElem?_map,hj];rfl) rfl rfl rfl
theorem ag4 {G:ak}{d ops brs:ah}{m1 m2 m3:Nat}(hT:Tab G) (h1:wt T G reachBytes 6 db d m1) (h2:wt T G reachBytes 6 jd ops m2) (h3:wt T G reachBytes 6 agQ brs m3) :
  al P agb.n [d,ops,brs] G fun v _=>v=.bool true:=by
 obtain⟨d,rfl,hd⟩:=Kb h1;obtain⟨l,hro,hok,hlen⟩:=Ka h2;have hlen:l.length≤140737488351232:=hlen;obtain⟨bs,hbs,_,_,_,hbl⟩:=J7 agZ rfl iD rfl h3;have hbs:ff 1 G brs (bs.map (.int .i64)):=hbs;have hbl:bs.length≤9223372036854775807:=Nat.le_trans hbl (by decide);refine agb.sound ?_;unfold agb.S;intro i1 f1;have s1:=(Sp.nil G).row f1 d.av;revert s1;generalize ak.upd _ i1 _=G2;intro s1;refine acj.use (hT.mono s1.ro) fun G4 c4=>?_;have s4:Sp [] G [au i1 d.av] G4:=s1.tmp c4;rw[dx,aa,Bool.not_true,aK];refine ae (Dl.ld (au.own (i:=0) s4 rfl) hd) ?_;refine fC.use hd (fun _ G8 c8=>?_) fun hb tb G8 t8=>?_
 ·refine ae (tv0 _ _) ?_;refine ae (tv1 _ _) ?_;rw[dx,aa,Bool.not_false,aN]
 refine ae (tv0 _ _) ?_;refine ae (tv1 _ _) ?_;rw[dx,aa,Bool.not_true,aK];have s8:Sp [] G [jP tb (Ig d)] G8:=(u9 s4 t8).take 1;refine ae ahC ?_;intro i13 f13;have p8:=(s8.nz 70).nz 70;have s14:=p8.row f13 (agn tb fun _=>.nilSlice);revert s14;generalize ak.upd _ i13 _=G14;intro s14;have s14:Sp [] G (agI i13 tb (Ig d) (fun _=>[]) fun _=>.nilSlice) G14:=s14;obtain⟨F9,h9,c9⟩:=age.close s14;have s15:Sp [] G [age i13 tb (Ig d) fun _=>[]] G14:=Sp.one h9 c9;have T0:=ahS hd hb;have hc:∀ s,((Ig d).c s).ok:=Db hd;generalize Ig d=t0 at s15 T0 hc;generalize (fun _=>[]:Bool->List cr)=S0 at s15 T0;have hTm:∀ {G2:ak}{ps:List LP},Sp [] G ps G2->Tab G2:=fun sp=>hT.mono sp.ro;intro R15 hR15;have joins:∀ {t:me}{S:Bool->List cr}{G1:ak}{K:ah->ak->Prop},t.c=t0.c->agw t S->Sp [] G [age i13 tb t S] G1->(∀ t' S' G',t'.c=t0.c->agw t' S'->Sp [] G [age i13 tb t' S'] G'->K (.bool true) G')->al P af9.n [.ptr i13 [] 0] G1 K:=by
  intro t S G1 K hcc T1 s hK;obtain⟨F1,hF1,aab⟩:=s.out;refine af9.use (hTm s) hF1 (by rw[hcc];exact hc) T1 fun t' S' e T2 F' G' q1 q2=>?_;exact hK t' S' G' (e.trans hcc) T2 (Sp.one q1 (aab.trans q2))
 have loop:∀ (m j:Nat) (t:me) (S:Bool->List cr) (G16:ak),m+j=l.length->t.c=t0.c->agw t S->Sp [] G [age i13 tb t S] G16->R15 [ops,brs,.ptr i13 [] 0,.int .i64 (j:Int)] G16:=by
  intro m;induction m with
  | zero=>
   intro j t S G16 hj hcc T1 s16;refine hR15 _ _ _ _ _ ?_;refine ae (GA (hro.cap.gZ.ch' s16.ch)) ?_;rw[aM,aa,dF_ (by omega),aK];exact joins hcc T1 s16 fun t' S' G' _ _ _=>rfl
  | succ m ih=>
   intro j t S G16 hj hcc T1 s16;obtain⟨o,ho⟩:∃ o,l[j]?=some o:=⟨_,List.getElem?_eq_getElem (by omega)⟩;have hoo:=hok o (List.mem_of_getElem? ho);have hsl:=hro.cap.gZ.ch' s16.ch;obtain⟨a,b,a1,a2,a3⟩:=ahU hsl ho;refine hR15 _ _ _ _ _ ?_;refine ae (GA hsl) ?_;rw[aM,aa,dT_ (by omega),aN];refine ae a1 ?_;refine ae a2 ?_;refine ae a3 ?_;rw[cD,aa];intro J53;have rest:∀ (t':me) (S':Bool->List cr) (G31:ak),t'.c=t0.c->agw t' S'->Sp [] G [age i13 tb t' S'] G31->J53 G31:=by
    intro t' S' G31 hc2 T2 s31;simp -zeta only [J53];intro R32 hR32;have inner:∀ (n k:Nat) (G33:ak),n+k=bs.length->Sp [] G [age i13 tb t' S'] G33->R32 [ops,brs,.ptr i13 [] 0,.int .i64 (j:Int),.int .i64 (k:Int)] G33:=by
     intro n;induction n with
     | zero=>
      intro k G33 hk s33;have hb33:=hbs.ch' s33.ch;refine hR32 _ _ _ _ _ _ ?_;rw[hb33.len (i:=agy) agZ rfl,List.length_map,aa,aM,aa,dF_ (by omega),aK,bg,i64_in (by omega) (by omega),aa];exact ih (j+1) t' S' G33 (by omega) hc2 T2 s33
     | succ n ih2=>
      intro k G33 hk s33;have hb33:=hbs.ch' s33.ch;obtain⟨z,hz⟩:∃ z,bs[k]?=some z:=⟨_,List.getElem?_eq_getElem (by omega)⟩;obtain⟨ea,x1,x2⟩:=hb33.at_ (k:=.i64) (i:=agy) (ie:=nc) (T:=T) (t:=agQ) (e:=ay) agZ rfl iD (c:=.int .i64 z) (by rw[List.getElem?_map,hz];rfl) rfl;refine hR32 _ _ _ _ _ _ ?_;rw[hb33.len (i:=agy) agZ rfl,List.length_map,aa,aM,aa,dT_ (by omega),aN];refine ae x1 ?_;refine ae x2 ?_;rw[bB,aa,aI];refine⟨fun _=>?_,fun _=>?_⟩
      ·refine joins hc2 T2 s33 fun t3 S3 G45 hc3 T3 s45=>?_;rw[dx,aa,Bool.not_true,aK,bg,i64_in (by omega) (by omega),aa];exact ih (j+1) t3 S3 G45 (by omega) hc3 T3 s45
      ·rw[bg,i64_in (by omega) (by omega),aa];exact ih2 (k+1) G33 (by omega) s33
    exact inner bs.length 0 G31 (by omega) s31
   rw[dC];refine⟨fun _=>?_,fun _=>rest t S G16 hcc T1 s16⟩;obtain⟨e,e1,e2⟩:=Lt hsl ho;refine ae e1 ?_;refine ae e2 ?_;obtain⟨F1,hF1,aab⟩:=s16.out;have hct:∀ s,(t.c s).ok:=(by rw[hcc];exact hc);refine aga.use hF1 hct T1 hoo fun F' G30 q1 q2=>?_;exact rest _ _ G30 ((ah6 t o).trans hcc) (ag9 T1 hct hoo).1 (Sp.one q1 (aab.trans q2))
 exact loop l.length 0 t0 S0 G14 (by omega) rfl T0 s15
end Go.Esc.M
