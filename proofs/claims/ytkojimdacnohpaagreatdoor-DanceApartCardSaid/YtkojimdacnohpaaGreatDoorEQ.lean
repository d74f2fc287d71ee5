import Derived.Test.YtkojimdacnohpaaGreatDoorEP
set_option linter.unusedSimpArgs false
set_option linter.unusedVariables false
namespace Go.Esc
open Go Go.RowKit
def C6 (ops:Array Oper) (o:Oper):Option Nat:=
 match o.guard with
 | some jw=>(ops[jw.1]?).bind (·.dst)
 | none=>none
def Ef (d:Nat):List Operand->Bool
 | []=>true
 | x :: l=>match x with
  | .tmp t=>bif Nat.beq t d then false else Ef d l
  | _=>Ef d l
def blind (ops:Array Oper) (x y:Oper):Bool:=
 match x.dst with
 | none=>true
 | some d=>Ef d y.op.operands.toList && match C6 ops y with
  | some t=>!Nat.beq t d
  | none=>true
def JH (x y:Oper):Bool:=
 match x.dst,y.dst with
 | some a,some b=>!Nat.beq a b
 | _,_=>true
def Jv:Op->Bool
 | .load _ _=>true
 | .convert _ _ _=>true
 | _=>false
def Kx {α:Type}:List α->Bool
 | []=>true
 | _=>false
def zX (T:Tbl) (ops:Array Oper) (zi:Nat) (z i:Oper) (ichk:List Nat):Bool:=
 blind ops z i && blind ops i z && JH z i &&
  bif Op.isE T z.op then isA T i.op && Kx ichk && (isC z.op || (isA T z.op || Jw z.op))
  else bif Op.isE T i.op then !tv T z.op || (Jv z.op && mh zi ichk) || (isA T i.op && Kx ichk)
  else true
theorem vm {d:Nat}:∀ {l:List Operand},Ef d l=true->∀ x∈l,x≠.tmp d
 | [],_,x,hx=>by simp at hx
 | y :: l,h,x,hx=>by
  simp only[Ef]at h;rcases List.mem_cons.1 hx with rfl | hm
  ·intro e;subst e;simp at h
  ·split at h
   ·rename_i t;cases hb:Nat.beq t d with
    | true=>simp[hb]at h
    | false=>rw[hb]at h;exact vm h x hm
   ·exact vm h x hm
theorem mc {ops:Array Oper}{x y:Oper}(h:blind ops x y=true) (env:Env) (v:Option ah):∀ o∈y.op.operands.toList,ev (env.put x.dst v) o=ev env o:=by
 intro o ho;refine JG fun t ht=>?_;unfold blind at h;rw[ht]at h;simp only[Bool.and_eq_true]at h;exact vm h.1 o ho
theorem Dy {ops:Array Oper}{us us':List Nat}{env env':Env}{y:Oper}(h:∀ t,C6 ops y=some t->mh t us=mh t us'/\env t=env' t):wants us env ops y.guard=wants us' env' ops y.guard:=by
 unfold wants;unfold C6 at h;cases hg:y.guard with
 | none=>rfl
 | some jw=>
  simp only[hg]at h ⊢;cases ht:(ops[jw.1]?).bind (·.dst) with
  | none=>rfl
  | some t=>
   obtain⟨h1,h2⟩:=h t ht;simp only[h1,h2]
theorem yD {ops:Array Oper}{x y:Oper}(h:blind ops x y=true) {t:Nat}(ht:C6 ops y=some t):x.dst≠some t:=by
 intro e;unfold blind at h;simp[e,ht]at h
theorem I4 {env:Env}{d:Option Nat}{v:Option ah}{t:Nat}(h:d≠some t):env.put d v t=env t:=by
 have:=JG (env:=env) (d:=d) (v:=v) (x:=.tmp t) (fun s hs e=>h (by injection e with e;rw[hs,e]));exact this
theorem pX {ops:Array Oper}{x y:Oper}(h:blind ops x y=true) (us:List Nat) (env:Env) (v:Option ah):wants (pF x.dst us) (env.put x.dst v) ops y.guard=wants us env ops y.guard:=
 Dy fun t ht=>by
  have hne:=yD h ht;exact⟨qo (by rw[p9];simp[hne]),I4 hne⟩
theorem k8 {ops:Array Oper}{x y:Oper}(h:blind ops x y=true) (us:List Nat) (env:Env) (v:Option ah):wants (j9 x.dst us) (env.put x.dst v) ops y.guard=wants us env ops y.guard:=
 Dy fun t ht=>by
  have hne:=yD h ht;exact⟨qo (by rw[n9];simp[hne]),I4 hne⟩
theorem FL {x y:Oper}(h:JH x y=true):∀ t,x.dst=some t->y.dst≠some t:=by
 intro t ht e;unfold JH at h;simp[ht,e]at h
section
variable {cx:Cx}{ops:Array Oper}{zi ii:Nat}{z i:Oper}{zchk ichk:List Nat}{M:yY}{us:List Nat}{ld:List Ld}{env:Env}{G:ak}
theorem swap (hcx:ES cx) (hp:zX cx.T ops zi z i ichk=true) (hM:Good M) (hl:Live G)
  (h:pq cx ops (some zi) z zchk (LL (pq cx ops (some ii) i ichk (LL M))) us ld env G) :
  pq cx ops (some ii) i ichk (LL (pq cx ops (some zi) z zchk (LL M))) us ld env G:=by
 have hN:Good (LL M):=LL.lK hM;obtain⟨N,hNM⟩:∃ N,N=LL M:=⟨_,rfl⟩;rw[<- hNM]at hN h ⊢;have toN:∀ us ld env G,(Live G->N us ld env G)->N us ld env G:=fun us ld env G h=>by
  subst hNM;exact fun hl=>h hl hl
 unfold zX at hp;simp only[Bool.and_eq_true]at hp;obtain⟨⟨⟨bzi,biz⟩,hne⟩,hkind⟩:=hp;have hzi:=FL hne;have hiz:∀ t,i.dst=some t->z.dst≠some t:=fun t ht e=>hzi t e ht;rcases h with ⟨hw,hb⟩ | ⟨hw,hk⟩
 ·rcases hb with ⟨he,hb⟩ | ⟨he,v,hv,hk⟩
  ·
   rw[he]at hkind;simp only[cond_true,Bool.and_eq_true]at hkind;obtain⟨⟨hiA,hnil⟩,hzk0⟩:=hkind;have hzk:isC z.op=true\/isA cx.T z.op=true\/Jw z.op=true:=(by simpa[Bool.or_eq_true] using hzk0);have hnil:ichk=[]:=by cases ichk with
    | nil=>rfl
    | cons _ _=>simp[Kx]at hnil
   subst hnil;obtain⟨F⟩:=uu (cx:=cx) (env:=env) hiA;have hsome:∃ v G',Live G'/\pq cx ops (some ii) i [] N (j9 z.dst us) ld (env.put z.dst v) G':=by
    rcases hzk with hC | hA | hP
    ·obtain⟨pre,f,args,form⟩:=EB (cx:=cx) (env:=env) hC;obtain⟨_,hc⟩:=(form _ _).1 hb;obtain⟨v,G',h1,h2⟩:=(hc.BW (Q':=fun v G'=>Live G'/\pq cx ops (some ii) i [] N (j9 z.dst us) ld (env.put z.dst (some v)) G') fun v G' hlive hh=>⟨hlive,hh.2 hlive⟩).some_ hl;exact⟨_,_,h1,h2⟩
    ·obtain⟨Z⟩:=uu (cx:=cx) (env:=env) hA;obtain⟨hpre,hc⟩:=(Z.form _ _).1 hb;obtain⟨x⟩:=Z.some_ hpre;obtain⟨id,hf,hlive⟩:=hl.alloc (Z.kind x);exact⟨_,_,hlive,(hc x id hf).2 hlive⟩
    ·obtain⟨pre,ts,tx,s1,x1,form⟩:=JX (cx:=cx) (env:=env) hP;obtain⟨_,hc⟩:=(form _ _).1 hb;obtain⟨B,w,hr⟩:=hl;obtain⟨_,w',v,G',_,_,hr',hk'⟩:=uR (P:=cx.P) (ty:=0) hcx.tbl hr hc;have hlive:Live G':=⟨B,w',hr'⟩;exact⟨_,G',hlive,hk'.2 hlive⟩
   obtain⟨v0,G0,hl0,hs0⟩:=hsome;rcases hs0 with ⟨hwi,hb0⟩ | ⟨hwi,_⟩
   ·rw[k8 bzi]at hwi;have hbody:∀ v G',pq cx ops (some ii) i [] N (j9 z.dst us) ld (env.put z.dst v) G' ->
      F.pre/\Op.isE cx.T i.op=true/\∀ x id,lE G' id->N (j9 i.dst (j9 z.dst us)) ld ((env.put z.dst v).put i.dst (some (F.val x id))) (G'.upd id (F.obj x)):=by
     intro v G' hs;have hiE:Op.isE cx.T i.op=true:=by
      cases hio:i.op<;>rw[hio]at hiA<;>first | rfl | exact hiA | (simp[isA]at hiA;done)
     rcases hs with ⟨_,⟨_,hb'⟩ | ⟨he',_⟩⟩ | ⟨hw',_⟩
     ·rw[qp (mc bzi env v),F.form]at hb';exact⟨hb'.1,hiE,fun x id hf=>(hb'.2 x id hf).2⟩
     ·rw[hiE]at he';cases he'
     ·rw[k8 bzi,hwi]at hw';cases hw'
    obtain⟨hpre,hiE,_⟩:=hbody v0 G0 (.inl ⟨by rw[k8 bzi];exact hwi,hb0⟩);refine .inl ⟨hwi,.inl ⟨hiE,(F.form _ _).2 ⟨hpre,fun x id hf=>⟨tu,fun hl'=>.inl ⟨by rw[k8 biz];exact hw,.inl ⟨he,?_⟩⟩⟩⟩⟩⟩;rw[qp (mc biz env _)];have fin:∀ v G',lE G' id->(Live G'->∀ x id,lE G' id->N (j9 i.dst (j9 z.dst us)) ld ((env.put z.dst v).put i.dst (some (F.val x id))) (G'.upd id (F.obj x))) ->
      N (j9 z.dst (j9 i.dst us)) ld ((env.put i.dst (some (F.val x id))).put z.dst v) (G'.upd id (F.obj x)):=by
     intro v G' hf' hh;refine toN _ _ _ _ fun hlive=>?_;have:=hh (hlive.le (hf'.le _)) x id hf';rw[put_comm hzi]at this;exact hN _ _ _ _ _ _ (Da _ _ _) (fun _=>Iff.rfl) this
    rcases hzk with hC | hA | hP
    ·obtain⟨pre,f,args,form⟩:=EB (cx:=cx) (env:=env) hC;obtain⟨hpz,hc⟩:=(form _ _).1 hb;refine (form _ _).2 ⟨hpz,?_⟩;have hc':=hc.BW (Q':=fun v G'=>recheck cx.T G' zchk ld/\pq cx ops (some ii) i [] N (j9 z.dst us) ld (env.put z.dst (some v)) G') fun v G' hlive hh=>⟨hh.1,hh.2 hlive⟩;refine (hc'.HU (o:=F.obj x) hf).mono fun v G'' ⟨G',hf',e,hrec,hstep⟩=>?_;subst e;exact⟨vg (hf'.le _) hrec,fin _ _ hf' fun _=>(hbody _ _ hstep).2.2⟩
    ·obtain⟨Z⟩:=uu (cx:=cx) (env:=env) hA;obtain⟨hpz,hc⟩:=(Z.form _ _).1 hb;refine (Z.form _ _).2 ⟨hpz,fun xz idz hfz=>?_⟩;obtain⟨hz1,hz2,hz3⟩:=hf.Bv hfz;have hh:=hc xz idz hz1;rw[zx hz2];refine⟨vg ((hz3 _).le _) hh.1,fin _ _ (hz3 _) fun hlive=>(hbody _ _ (hh.2 hlive)).2.2⟩
    ·obtain⟨pre,ts,tx,s1,x1,form⟩:=JX (cx:=cx) (env:=env) hP;obtain⟨hpz,hc⟩:=(form _ _).1 hb;refine (form _ _).2 ⟨hpz,?_⟩;refine wJ (fun v G'' hh=>?_) (Br (o:=F.obj x) hf hc);obtain⟨G',hf',e,hrec,hstep⟩:=hh;subst e;exact⟨vg (hf'.le _) hrec,fin _ _ hf' fun hlive=>(hbody _ _ (hstep hlive)).2.2⟩
   ·rw[k8 bzi]at hwi;refine .inr ⟨hwi,fun hl'=>.inl ⟨by rw[pX biz];exact hw,.inl ⟨he,?_⟩⟩⟩;rw[qp (mc biz env _)];refine oC (fun v G' hh=>⟨hh.1,toN _ _ _ _ fun hlive=>?_⟩) hb;rcases hh.2 hlive with ⟨hw',_⟩ | ⟨_,hki⟩
    ·rw[k8 bzi,hwi]at hw';cases hw'
    ·rw[put_comm hzi]at hki;exact hN _ _ _ _ _ _ (zd hiz _) (fun _=>Iff.rfl) hki
  ·
   have h2:=hk hl;rw[he]at hkind;simp only[cond_false]at hkind;rcases h2 with ⟨hwi,hbi⟩ | ⟨hwi,hki⟩
   ·rw[k8 bzi]at hwi;rcases hbi with ⟨hei,hbi⟩ | ⟨hei,vi,hvi,hki⟩
    ·rw[hei]at hkind;simp only[cond_true]at hkind;rw[qp (mc bzi env _)]at hbi;have fin:∀ u G',N (j9 i.dst (j9 z.dst us)) (yk (some zi) env z.op v ld) ((env.put z.dst (some v)).put i.dst u) G'->mX cx.T env G' z.op=some v ->
       pq cx ops (some zi) z zchk N (j9 i.dst us) ld (env.put i.dst u) G':=by
      intro u G' hn hd;refine .inl ⟨by rw[k8 biz];exact hw,.inr ⟨he,v,by rw[qj (mc biz env _)];exact hd,?_⟩⟩;rw[put_comm hzi]at hn;exact hN _ _ _ _ _ _ (Da _ _ _) (fun e=>by rw[kE,kE,qw.congr (mc biz env _)]) hn
     simp only[Bool.or_eq_true,Bool.and_eq_true,Bool.not_eq_true']at hkind;have sub:∀ G',recheck cx.T G' ichk (yk (some zi) env z.op v ld)->recheck cx.T G' ichk ld:=fun G' hr=>
      kT.2 fun e hm hc=>kT.1 hr e (kE.2 (.inr hm)) hc
     rcases hkind with (hnr | ⟨hload,hm⟩) | ⟨hiA,hnil⟩
     ·refine .inl ⟨hwi,.inl ⟨hei,oC (fun u G' hh=>⟨sub _ hh.1,fun hl'=>fin _ _ hh.2 ?_⟩) hbi⟩⟩;rw[<- yw (G:=G) hnr];exact hv
     ·refine .inl ⟨hwi,.inl ⟨hei,oC (fun u G' hh=>⟨sub _ hh.1,fun hl'=>fin _ _ hh.2 ?_⟩) hbi⟩⟩;have hr:=hh.1;cases hop:z.op<;>rw[hop]at hload hv<;>try (simp[Jv]at hload;done)
      case load t x=>
       rw[hop]at hr;simp only[mX]at hv ⊢;cases hx:ev env x with
       | none=>simp[hx]at hv
       | some a=>exact kT.1 hr ⟨zi,t,a,v,none⟩ (kE.2 (.inl ⟨zi,t,x,a,none,rfl,hx,rfl,.inl ⟨rfl,rfl⟩⟩)) hm
      case convert s d x=>
       rw[hop]at hr;simp only[mX]at hv ⊢;cases hx:ev env x with
       | none=>simp[hx]at hv
       | some a=>exact kT.1 hr ⟨zi,d,a,v,some s⟩ (kE.2 (.inl ⟨zi,d,x,a,some s,rfl,hx,rfl,.inr ⟨s,rfl,rfl⟩⟩)) hm
     ·obtain⟨F⟩:=uu (cx:=cx) (env:=env) hiA;have hnil:ichk=[]:=by cases ichk with
       | nil=>rfl
       | cons _ _=>simp[Kx]at hnil
      subst hnil;obtain⟨hpre,hh⟩:=(F.form _ _).1 hbi;exact .inl ⟨hwi,.inl ⟨hei,(F.form _ _).2 ⟨hpre,fun x id hf=>⟨tu,fun hl'=>fin _ _ (hh x id hf).2 (KO (hf.le _) hv)⟩⟩⟩⟩
    ·rw[qj (mc bzi env _)]at hvi;refine .inl ⟨hwi,.inr ⟨hei,vi,hvi,fun hl'=>.inl ⟨by rw[k8 biz];exact hw,.inr ⟨he,v,by rw[qj (mc biz env _)];exact hv,?_⟩⟩⟩⟩;rw[put_comm hzi]at hki;refine hN _ _ _ _ _ _ (Da _ _ _) (fun e=>?_) hki;rw[kE,kE,kE,kE,qw.congr (mc biz env _),qw.congr (mc bzi env _)];constructor<;>(rintro (a | a | a)<;>simp[a])
   ·rw[k8 bzi]at hwi;refine .inr ⟨hwi,fun hl'=>.inl ⟨by rw[pX biz];exact hw,.inr ⟨he,v,by rw[qj (mc biz env _)];exact hv,?_⟩⟩⟩;rw[put_comm hzi]at hki;exact hN _ _ _ _ _ _ (zd hiz _) (fun e=>by rw[kE,kE,qw.congr (mc biz env _)]) hki
 ·have h2:=hk hl;rcases h2 with ⟨hwi,hbi⟩ | ⟨hwi,hki⟩
  ·rw[pX bzi]at hwi;rcases hbi with ⟨hei,hbi⟩ | ⟨hei,vi,hvi,hki⟩
   ·rw[qp (mc bzi env _)]at hbi;refine .inl ⟨hwi,.inl ⟨hei,oC (fun u G' hh=>⟨hh.1,fun hl'=>.inr ⟨by rw[k8 biz];exact hw,?_⟩⟩) hbi⟩⟩;have:=hh.2;rw[put_comm hzi]at this;exact hN _ _ _ _ _ _ (fun t=>(zd hzi _ t).symm) (fun _=>Iff.rfl) this
   ·rw[qj (mc bzi env _)]at hvi;refine .inl ⟨hwi,.inr ⟨hei,vi,hvi,fun hl'=>.inr ⟨by rw[k8 biz];exact hw,?_⟩⟩⟩;rw[put_comm hzi]at hki;exact hN _ _ _ _ _ _ (fun t=>(zd hzi _ t).symm) (fun e=>by rw[kE,kE,qw.congr (mc bzi env _)]) hki
  ·rw[pX bzi]at hwi;refine .inr ⟨hwi,fun hl'=>.inr ⟨by rw[pX biz];exact hw,?_⟩⟩;rw[put_comm hzi]at hki;exact hN _ _ _ _ _ _ (KR _ _ _) (fun _=>Iff.rfl) hki
end
end Go.Esc
