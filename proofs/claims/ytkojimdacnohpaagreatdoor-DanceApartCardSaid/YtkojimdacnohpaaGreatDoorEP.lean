import Derived.Test.YtkojimdacnohpaaGreatDoorEO
set_option linter.unusedSimpArgs false
set_option linter.unusedVariables false
namespace Go.Esc
open Go Go.RowKit
def wants (us:List Nat) (env:Env) (ops:Array Oper) (g:Option (Nat×Bool)):Option Bool:=
 match g with
 | none=>some true
 | some (j,want)=>match (ops[j]?).bind (·.dst) with
  | some t=>bif mh t us then some false else match env t with
   | some (.bool b)=>some (b == want)
   | _=>none
  | none=>none
abbrev yY:=List Nat->List Ld->Env->ak->Prop
def JQ (cx:Cx) (ix:Option Nat) (o:Oper) (chk:List Nat) (K:yY) (us:List Nat) (ld:List Ld) (env:Env) (G:ak):Prop:=
 (Op.isE cx.T o.op=true/\jI cx env G (fun v G'=>recheck cx.T G' chk ld/\K (j9 o.dst us) ld (env.put o.dst v) G') o.op) ∨
 (Op.isE cx.T o.op=false/\∃ v,mX cx.T env G o.op=some v/\K (j9 o.dst us) (yk ix env o.op v ld) (env.put o.dst (some v)) G)
def pq (cx:Cx) (ops:Array Oper) (ix:Option Nat) (o:Oper) (chk:List Nat) (K:yY) (us:List Nat) (ld:List Ld) (env:Env) (G:ak):Prop:=
 (wants us env ops o.guard=some true/\JQ cx ix o chk K us ld env G)\/(wants us env ops o.guard=some false/\K (pF o.dst us) ld (env.put o.dst none) G)
theorem xY {T:Tbl}{chk:List Nat}{ld:List Ld}{K:Option ah->ak->Prop}{v:Option ah}{G':ak}:y5 T chk ld K v G' ↔ recheck T G' chk ld/\K v G':=by
 cases chk with
 | nil=>exact⟨fun h=>⟨tu,h⟩,fun h=>h.2⟩
 | cons c cs=>exact Iff.rfl
theorem Cr {cx:Cx}{ix:Option Nat}{o:Oper}{chk:List Nat}{K:yY}{us:List Nat}{ld:List Ld}{env:Env}{G:ak} :
  JQ cx ix o chk K us ld env G ↔ (bif Op.isE cx.T o.op then jI cx env G (y5 cx.T chk ld fun v G'=>K (j9 o.dst us) ld (env.put o.dst v) G') o.op
   else wv (mX cx.T env G o.op) fun v=>K (j9 o.dst us) (yk ix env o.op v ld) (env.put o.dst (some v)) G):=by
 unfold JQ;cases Op.isE cx.T o.op with
 | true=>
  simp only[cond_true,true_and,false_and,or_false,Bool.true_eq_false];exact⟨fun hh=>oC (fun v G' h=>xY.2 h) hh,fun hh=>oC (fun v G' h=>xY.1 h) hh⟩
 | false=>
  simp only[cond_false,true_and,false_and,false_or,Bool.false_eq_true];unfold wv;constructor
  ·rintro⟨v,hv,h⟩;rw[hv];exact h
  ·intro h;split at h
   ·rename_i v hv;exact⟨v,hv,h⟩
   ·exact h.elim
theorem EJ {cx:Cx}{ops:Array Oper}{ix:Option Nat}{o:Oper}{chk:List Nat}{K:yY}{us:List Nat}{ld:List Ld}{env:Env}{G:ak} :
  Ih cx ops ix o chk K us ld env G ↔ pq cx ops ix o chk K us ld env G:=by
 unfold Ih pq FG wants;cases hg:o.guard with
 | none=>simp[Cr]
 | some jw=>
  obtain⟨j,want⟩:=jw;simp only;cases ht:(ops[j]?).bind (·.dst) with
  | none=>simp
  | some t=>
   simp only;cases hm:mh t us with
   | true=>simp
   | false=>
    simp only[cond_false];unfold brB;cases he:env t with
    | none=>simp
    | some a=>
     cases a<;>try (simp;done)
     rename_i b;simp only;cases b<;>cases want<;>simp only[cond_true,cond_false,I3 he]<;>simp[Cr]
def Good (K:yY):Prop:=∀ us us' ld ld' env G,(∀ t,mh t us=mh t us')->(∀ e,e∈ld ↔ e∈ld')->K us ld env G->K us' ld' env G
theorem p9 (d:Option Nat) (t:Nat) (us:List Nat):mh t (pF d us)=true ↔ d=some t\/mh t us=true:=by
 cases d with
 | none=>simp[pF]
 | some d=>
  simp only[pF,nL,Option.some.injEq];exact⟨fun h=>h.imp Eq.symm id,fun h=>h.imp Eq.symm id⟩
theorem n9 (d:Option Nat) (t:Nat):∀ us,mh t (j9 d us)=true ↔ mh t us=true/\d≠some t
 | []=>by simp[j9,mh]
 | x :: l=>by
  refine⟨ub d t _,fun ⟨h,hd⟩=>?_⟩;cases d with
  | none=>exact h
  | some d=>
   simp only[j9];have hx:=(nL _ _ _).1 h;cases hb:Nat.beq d x with
   | true=>
    simp only[cond_true];refine (n9 (some d) t l).2 ⟨hx.resolve_left fun e=>hd (by rw[e,Nat.eq_of_beq_eq_true hb]),hd⟩
   | false=>
    simp only[cond_false];exact (nL _ _ _).2 (hx.imp id fun hl=>(n9 (some d) t l).2 ⟨hl,hd⟩)
theorem qo {a b:Bool}(h:a=true ↔ b=true):a=b:=by cases a<;>cases b<;>simp_all
theorem xy {us us':List Nat}(h:∀ t,mh t us=mh t us') (d:Option Nat) (t:Nat):mh t (pF d us)=mh t (pF d us'):=
 qo (by rw[p9,p9,h])
theorem rp {us us':List Nat}(h:∀ t,mh t us=mh t us') (d:Option Nat) (t:Nat):mh t (j9 d us)=mh t (j9 d us'):=
 qo (by rw[n9,n9,h])
theorem KR (d e:Option Nat) (us:List Nat) (t:Nat):mh t (pF d (pF e us))=mh t (pF e (pF d us)):=
 qo (by simp only[p9];constructor<;>(rintro (h | h | h)<;>simp[h]))
theorem Da (d e:Option Nat) (us:List Nat) (t:Nat):mh t (j9 d (j9 e us))=mh t (j9 e (j9 d us)):=
 qo (by simp only[n9];constructor<;>(rintro⟨⟨a,b⟩,c⟩;exact⟨⟨a,c⟩,b⟩))
theorem zd {d e:Option Nat}(h:∀ t,d=some t->e≠some t) (us:List Nat) (t:Nat):mh t (pF d (j9 e us))=mh t (j9 e (pF d us)):=
 qo (by
  simp only[n9,p9]
  constructor
  ·rintro (a | ⟨a,b⟩)
   ·exact⟨.inl a,h t a⟩
   ·exact⟨.inr a,b⟩
  ·rintro⟨a | a,b⟩
   ·exact .inl a
   ·exact .inr ⟨a,b⟩)
def qw (ix:Option Nat) (env:Env) (op:Op) (v:ah) (e:Ld):Prop:=
 ∃ i t x a s,ix=some i/\ev env x=some a/\e=⟨i,t,a,v,s⟩/\((s=none/\op=.load t x)\/∃ s',s=some s'/\op=.convert s' t x)
theorem kE {ix:Option Nat}{env:Env}{op:Op}{v:ah}{ld:List Ld}{e:Ld}:e∈yk ix env op v ld ↔ qw ix env op v e\/e∈ld:=by
 unfold yk;cases ix with
 | none=>simp[qw]
 | some i=>
  cases op<;>simp only<;>try (simp[qw];done)
  case load t x=>
   cases hx:ev env x with
   | none=>
    simp only;constructor
    ·exact .inr
    ·rintro (⟨i',t',x',a',s',h1,h2,h3,⟨_,h4⟩ | ⟨_,_,h4⟩⟩ | h)
     ·injection h4 with h4 h5;subst h5;rw[hx]at h2;cases h2
     ·cases h4
     ·exact h
   | some a=>
    simp only[List.mem_cons];constructor
    ·rintro (h | h)
     ·exact .inl ⟨i,t,x,a,none,rfl,hx,h,.inl ⟨rfl,rfl⟩⟩
     ·exact .inr h
    ·rintro (⟨i',t',x',a',s',h1,h2,h3,⟨hs,h4⟩ | ⟨_,_,h4⟩⟩ | h)
     ·injection h1 with h1;injection h4 with h4 h5;subst h1 h4 h5 hs;rw[hx]at h2;injection h2 with h2;subst h2;exact .inl h3
     ·cases h4
     ·exact .inr h
  case convert s d x=>
   cases hx:ev env x with
   | none=>
    simp only;constructor
    ·exact .inr
    ·rintro (⟨i',t',x',a',s',h1,h2,h3,⟨_,h4⟩ | ⟨_,_,h4⟩⟩ | h)
     ·cases h4
     ·injection h4 with h4 h5 h6;subst h6;rw[hx]at h2;cases h2
     ·exact h
   | some a=>
    simp only[List.mem_cons];constructor
    ·rintro (h | h)
     ·exact .inl ⟨i,d,x,a,some s,rfl,hx,h,.inr ⟨s,rfl,rfl⟩⟩
     ·exact .inr h
    ·rintro (⟨i',t',x',a',s',h1,h2,h3,⟨_,h4⟩ | ⟨s2,hs,h4⟩⟩ | h)
     ·cases h4
     ·injection h1 with h1;injection h4 with h4 h5 h6;subst h1 h4 h5 h6 hs;rw[hx]at h2;injection h2 with h2;subst h2;exact .inl h3
     ·exact .inr h
theorem qw.congr {ix:Option Nat}{env env':Env}{op:Op}{v:ah}{e:Ld}(h:∀ x∈op.operands.toList,ev env x=ev env' x):qw ix env op v e ↔ qw ix env' op v e:=by
 constructor
 ·rintro⟨i,t,x,a,s,h1,h2,h3,h4⟩;exact⟨i,t,x,a,s,h1,by rw[<- h x (by rcases h4 with ⟨_,h4⟩ | ⟨_,_,h4⟩<;>(subst h4;simp[Op.operands]))];exact h2,h3,h4⟩
 ·rintro⟨i,t,x,a,s,h1,h2,h3,h4⟩;exact⟨i,t,x,a,s,h1,by rw[h x (by rcases h4 with ⟨_,h4⟩ | ⟨_,_,h4⟩<;>(subst h4;simp[Op.operands]))];exact h2,h3,h4⟩
theorem Bl {T:Tbl}{G:ak}{chk:List Nat}{ld ld':List Ld}(h:∀ e,e∈ld ↔ e∈ld') (hr:recheck T G chk ld):recheck T G chk ld':=
 kT.2 fun e he hm=>kT.1 hr e ((h e).2 he) hm
theorem xZ {us us':List Nat}(h:∀ t,mh t us=mh t us') (env:Env) (ops:Array Oper) (g:Option (Nat×Bool)):wants us env ops g=wants us' env ops g:=by
 unfold wants;cases g with
 | none=>rfl
 | some jw=>
  simp only;cases (ops[jw.1]?).bind (·.dst) with
  | none=>rfl
  | some t=>simp only[h]
theorem Ff {cx:Cx}{ops:Array Oper}{ix:Option Nat}{o:Oper}{chk:List Nat}{K:yY}(hK:Good K):Good (pq cx ops ix o chk K):=by
 intro us us' ld ld' env G hu hl h;rcases h with ⟨hw,hb⟩ | ⟨hw,hk⟩
 ·refine .inl ⟨by rw[<- xZ hu];exact hw,?_⟩;rcases hb with ⟨he,hb⟩ | ⟨he,v,hv,hk⟩
  ·exact .inl ⟨he,oC (fun v G' hh=>⟨Bl hl hh.1,hK _ _ _ _ _ _ (rp hu _) hl hh.2⟩) hb⟩
  ·refine .inr ⟨he,v,hv,hK _ _ _ _ _ _ (rp hu _) (fun e=>?_) hk⟩;rw[kE,kE,hl]
 ·exact .inr ⟨by rw[<- xZ hu];exact hw,hK _ _ _ _ _ _ (xy hu _) hl hk⟩
theorem u7 {cx:Cx}{ops:Array Oper}{ix:Option Nat}{o:Oper}{chk:List Nat}{K K':yY}(hk:∀ us ld env G,K us ld env G->K' us ld env G) {us:List Nat}{ld:List Ld}{env:Env}{G:ak}
  (h:pq cx ops ix o chk K us ld env G):pq cx ops ix o chk K' us ld env G:=by
 rcases h with ⟨hw,⟨he,hb⟩ | ⟨he,v,hv,h⟩⟩ | ⟨hw,h⟩
 ·exact .inl ⟨hw,.inl ⟨he,oC (fun v G' hh=>⟨hh.1,hk _ _ _ _ hh.2⟩) hb⟩⟩
 ·exact .inl ⟨hw,.inr ⟨he,v,hv,hk _ _ _ _ h⟩⟩
 ·exact .inr ⟨hw,hk _ _ _ _ h⟩
def LL (K:yY):yY:=fun us ld env G=>Live G->K us ld env G
theorem LL.lK {K:yY}(h:Good K):Good (LL K):=fun _ _ _ _ _ _ hu hl hk hlive=>h _ _ _ _ _ _ hu hl (hk hlive)
def isA (T:Tbl):Op->Bool
 | .alloc _ | .box _ _ | .buildSlice _ _ _ | .makeSlice _ _ _ | .makeMap _ _=>true
 | .convert s d x=>Op.isE T (.convert s d x)
 | _=>false
def isC:Op->Bool
 | .call c=>match c.callee with
  | .builtin _=>false
  | _=>true
 | _=>false
structure xX (cx:Cx) (env:Env) (op:Op) where
 pre:Prop
 X:Type
 val:X->AId->ah
 obj:X->n6
 some_:pre->Nonempty X
 kind:∀ x,(∃ t,obj x=.own t)\/obj x=.map []
 form:∀ G K,jI cx env G K op ↔ pre/\∀ x id,lE G id->K (some (val x id)) (G.upd id (obj x))
def xX.never {cx:Cx}{env:Env}{op:Op} (h:∀ G K,¬ jI cx env G K op):xX cx env op where
 pre:=False
 X:=Unit
 val:=fun _ _=>.bool true
 obj:=fun _=>.map []
 some_:=fun h=>h.elim
 kind:=fun _=>.inr rfl
 form:=fun G K=>⟨fun hh=>(h G K hh).elim,fun hh=>hh.1.elim⟩
theorem uu {cx:Cx}{env:Env}{op:Op}(h:isA cx.T op=true):Nonempty (xX cx env op):=by
 cases op<;>try (simp[isA]at h;done)
 case alloc t=>
  cases ht:cx.T t with
  | none=>exact⟨.never fun G K hh=>by simp[jI,ht]at hh⟩
  | some i=>exact⟨⟨True,Unit,fun _ id=>.ptr id [] 0,fun _=>.own i.zero,fun _=>⟨()⟩,fun _=>.inl ⟨_,rfl⟩,fun G K=>by simp[jI,ht,br]⟩⟩
 case box t x=>
  cases ht:ev env x with
  | none=>exact⟨.never fun G K hh=>by simp[jI,ht]at hh⟩
  | some v=>exact⟨⟨True,Unit,fun _ id=>.ptr id [] 0,fun _=>.own v,fun _=>⟨()⟩,fun _=>.inl ⟨_,rfl⟩,fun G K=>by simp[jI,ht,br]⟩⟩
 case makeMap t r=>
  cases r with
  | some r=>exact⟨.never fun G K hh=>by simp[jI]at hh⟩
  | none=>exact⟨⟨True,Unit,fun _ id=>.map id,fun _=>.map [],fun _=>⟨()⟩,fun _=>.inr rfl,fun G K=>by simp[jI,br]⟩⟩
 case buildSlice t n ps=>
  cases hp:evp env ps.toList with
  | none=>exact⟨.never fun G K hh=>by simp[jI,hp]at hh⟩
  | some l=>
   cases ht:cx.T t with
   | none=>exact⟨.never fun G K hh=>by simp[jI,hp,bu,ht]at hh⟩
   | some si=>
    cases hd:si.desc
    case slice e=>
     cases hi:cx.T e with
     | none=>exact⟨.never fun G K hh=>by simp[jI,hp,bu,ht,hd,hi]at hh⟩
     | some i=>
      cases hf:nx (fun k=>some (k * i.size,i.size)) (List.replicate n i.zero) l with
      | none=>exact⟨.never fun G K hh=>by simp[jI,hp,bu,ht,hd,hi,hf]at hh⟩
      | some cs=>exact⟨⟨n * i.size≤16777216,Unit,fun _ id=>.slice id [] 0 0 n n,fun _=>.own (.agg cs),fun _=>⟨()⟩,fun _=>.inl ⟨_,rfl⟩,
        fun G K=>by simp[jI,hp,bu,ht,hd,hi,hf,br]⟩⟩
    all_goals exact⟨.never fun G K hh=>by simp[jI,hp,bu,ht,hd]at hh⟩
 case makeSlice t l c=>
  cases hl:ev env l with
  | none=>exact⟨.never fun G K hh=>by simp[jI,hl]at hh⟩
  | some l'=>
   cases hc:ev env c with
   | none=>exact⟨.never fun G K hh=>by simp[jI,hl,hc]at hh⟩
   | some c'=>
    cases ht:cx.T t with
    | none=>exact⟨.never fun G K hh=>by simp[jI,hl,hc,lg,ht]at hh⟩
    | some si=>
     cases l'
     case int k n=>
      cases c'
      case int k' m=>
       cases hd:si.desc
       case slice e=>
        cases hi:cx.T e with
        | none=>exact⟨.never fun G K hh=>by simp[jI,hl,hc,lg,ht,hd,hi]at hh⟩
        | some i=>exact⟨⟨0≤n/\n≤m/\(i.bytes:Int) * m≤281474976710656/\m≤9223372036854775807,Unit,fun _ id=>.slice id [] 0 0 n.toNat m.toNat,
          fun _=>.own (.agg (List.replicate m.toNat i.zero)),fun _=>⟨()⟩,fun _=>.inl ⟨_,rfl⟩,fun G K=>by simp[jI,hl,hc,lg,ht,hd,hi,Le,br,and_assoc]⟩⟩
       all_goals exact⟨.never fun G K hh=>by simp[jI,hl,hc,lg,ht,hd]at hh⟩
      all_goals exact⟨.never fun G K hh=>by simp[jI,hl,hc,lg,ht]at hh⟩
     all_goals exact⟨.never fun G K hh=>by simp[jI,hl,hc,lg,ht]at hh⟩
 case convert s d x=>
  cases hx:ev env x with
  | none=>exact⟨.never fun G K hh=>by simp[jI,hx]at hh⟩
  | some v=>
   cases hs:cx.T s with
   | none=>exact⟨.never fun G K hh=>by simp[jI,hx,nd,hs]at hh⟩
   | some si=>
    cases hd:cx.T d with
    | none=>exact⟨.never fun G K hh=>by simp[jI,hx,nd,hs,hd]at hh⟩
    | some di=>
     cases v
     case str l=>
      cases hdd:di.desc
      case slice e=>
       cases hi:cx.T e with
       | none=>exact⟨.never fun G K hh=>by simp[jI,hx,nd,hs,hd,hdd,hi]at hh⟩
       | some i=>
        exact⟨⟨i.desc=.int .u8/\l.length≤maxLen,{ cap:Nat // l.length≤cap/\cap≤maxLen },fun c id=>.slice id [] 0 0 l.length c.1,
         fun c=>.own (.agg (l.map (fun b=>.int .u8 b.toNat)++List.replicate (c.1-l.length) (.int .u8 0))),fun hh=>⟨⟨l.length,Nat.le_refl _,hh.2⟩⟩,fun _=>.inl ⟨_,rfl⟩,fun G K=>by
          simp only[jI,hx,nd,hs,hd,hdd,hi,J1,br]
          constructor
          ·rintro⟨h1,h2,h3⟩
           exact⟨⟨h1,h2⟩,fun c id hf=>h3 c.1 c.2.1 c.2.2 id hf⟩
          ·rintro⟨⟨h1,h2⟩,h3⟩
           exact⟨h1,h2,fun cap a b id hf=>h3 ⟨cap,a,b⟩ id hf⟩⟩⟩
      all_goals exact⟨.never fun G K hh=>by simp[jI,hx,nd,hs,hd,hdd]at hh⟩
     all_goals exact⟨.never fun G K hh=>by simp[jI,hx,nd,hs,hd]at hh⟩
theorem EB {cx:Cx}{env:Env}{op:Op}(h:isC op=true):∃ (pre:Prop) (f:FuncId) (args:List ah),∀ G K,jI cx env G K op ↔ pre/\al cx.P f args G fun v G'=>K (some v) G':=by
 cases op<;>try (simp[isC]at h;done)
 rename_i c;simp only[isC]at h;cases hc:c.callee with
 | builtin b=>simp[hc]at h
 | value f=>
  cases hf:ev env f with
  | none=>exact⟨False,0,[],fun G K=>by simp[jI,hc,hf]⟩
  | some fv=>
   cases ha:evs env c.args.toList with
   | none=>exact⟨False,0,[],fun G K=>by simp[jI,hc,hf,ha]⟩
   | some args=>
    cases fv
    case func fn first cap=>
     cases fn
     case func k=>exact⟨True,k,first++args++cap,fun G K=>by simp[jI,hc,hf,ha,oS]⟩
     all_goals exact⟨False,0,[],fun G K=>by simp[jI,hc,hf,ha,oS]⟩
    all_goals exact⟨False,0,[],fun G K=>by simp[jI,hc,hf,ha,oS]⟩
 | invoke r m=>
  cases hf:ev env r with
  | none=>exact⟨False,0,[],fun G K=>by simp[jI,hc,hf]⟩
  | some rv=>
   cases ha:evs env c.args.toList with
   | none=>exact⟨False,0,[],fun G K=>by simp[jI,hc,hf,ha]⟩
   | some args=>
    cases rv
    case iface t v=>
     cases hm:cx.meth t m with
     | none=>exact⟨False,0,[],fun G K=>by simp[jI,hc,hf,ha,uv,hm]⟩
     | some k=>exact⟨True,k,v :: args,fun G K=>by simp[jI,hc,hf,ha,uv,hm]⟩
    all_goals exact⟨False,0,[],fun G K=>by simp[jI,hc,hf,ha,uv]⟩
theorem oT.some_ {P:Program}{f:FuncId}{args:Array Value}{w:World}{R:Value->World->Prop}(h:oT P f args w R):∃ u w',R u w':=by
 unfold oT at h;split at h
 ·exact⟨_,_,h⟩
 ·obtain⟨e,w',fr,⟨u,_,hr⟩,_⟩:=h [];exact⟨u,w',hr⟩
 ·exact h.elim
theorem al.some_ {P:Program}{f:FuncId}{args:List ah}{G:ak}{Q:ah->ak->Prop}(h:al P f args G Q) (hl:Live G):∃ v G',Q v G':=
 let ⟨B,w,hr⟩:=hl
 let ⟨_,_,v,G',_,_,q⟩:=(h B w hr).some_
 ⟨v,G',q⟩
theorem lE.le {G:ak}{id:AId}(h:lE G id) (o:n6):G.le (G.upd id o):=fun j x hx=>by
 rw[ak.nb _ _ (h.ne (by rw[hx];rfl))];exact hx
theorem al.HU {P:Program}{f:FuncId}{args:List ah}{G:ak}{id:AId}{o:n6}{Q:ah->ak->Prop}(h:al P f args G Q) (hf:lE G id) :
  al P f args (G.upd id o) fun v G''=>∃ G',lE G' id/\G''=G'.upd id o/\Q v G':=by
 intro B w hr;have hle:=hf.le o;refine (h _ w (hr.weaken hle).r8).mono fun u w' ⟨v,G1',e,r,q⟩=>⟨v,(G.upd id o).merge G G1',e,hr.merge hle r,G1',⟨hf.1,hf.2.1,fun j hj e'=>?_⟩,?_,q⟩
 ·have hlt:id.block < w.heap.size:=(hr.obj id o (ak.dR _ _ _)).lt hr.size;have hpr:(Esc.r8 G w (hr.weaken hle).vS).prot j.block:=⟨by rw[e'];exact hlt,fun k x hk _ e''=>hf.2.2 k (by rw[hk];rfl) (e''.trans e')⟩;cases hg:G1' j with
  | none=>simp[hg]at hj
  | some x=>
   have hok:=r.obj j x hg;cases x with
   | own t=>obtain⟨_,_,b,_⟩:=hok;exact b hpr
   | map t=>obtain⟨_,_,b,_⟩:=hok;exact b hpr
   | ro t=>
    have h1:(match G j with | some (.ro t)=>some t | _=>none)=some t:=hok;split at h1
    ·rename_i t' ht;exact hf.2.2 j (by rw[ht];rfl) e'
    ·cases h1
 ·funext j;unfold ak.merge;by_cases hj:j=id
  ·subst hj;simp[hf.none,ak.upd]
  ·simp only[ak.nb _ _ hj];by_cases hs:(G j).isSome=true<;>simp[hs]
theorem Live.le {G1 G:ak}(hle:G1.le G) (h:Live G):Live G1:=let ⟨B,w,hr⟩:=h;⟨B,w,hr.weaken hle⟩
theorem Live.alloc {G:ak}(h:Live G) {o:n6}(ho:(∃ t,o=.own t)\/o=.map []):∃ id,lE G id/\Live (G.upd id o):=by
 obtain⟨B,w,hr⟩:=h;refine⟨nextId w,hr.fresh,B,?_⟩;rcases ho with ⟨t,rfl⟩ | rfl
 ·exact⟨_,hr.alloc t 0 (0,0) (.inl (Nat.le_refl _))⟩
 ·exact⟨_,hr.allocMap 0⟩
theorem zx {G:ak}{id id':AId}{o o':n6}(h:id≠id'):(G.upd id o).upd id' o'=(G.upd id' o').upd id o:=by
 funext j;simp only[ak.upd];by_cases h1:j=id
 ·subst h1;simp[h]
 ·simp[h1]
theorem lE.Bv {G:ak}{id id':AId}{o:n6}(h:lE G id) (h':lE (G.upd id o) id'):lE G id'/\id≠id'/\∀ o',lE (G.upd id' o') id:=by
 have hne:id.block≠id'.block:=h'.2.2 id (by rw[ak.dR];rfl);refine⟨⟨h'.1,h'.2.1,fun j hj=>h'.2.2 j ?_⟩,fun e=>hne (by rw[e]),fun o'=>⟨h.1,h.2.1,fun j hj=>?_⟩⟩
 ·have:=h.ne hj;rw[ak.nb _ _ this];exact hj
 ·by_cases e:j=id'
  ·rw[e];exact Ne.symm hne
  ·rw[ak.nb _ _ e]at hj;exact h.2.2 j hj
def Jw:Op->Bool
 | .call c=>match c.callee with
  | .builtin .append=>true
  | _=>false
 | _=>false
theorem JX {cx:Cx}{env:Env}{op:Op}(h:Jw op=true):∃ (pre:Prop) (ts tx:TypeId) (s x:ah),∀ G K,jI cx env G K op ↔ pre/\cn cx.T G ts tx s x fun v G'=>K (some v) G':=by
 cases op<;>try (simp[Jw]at h;done)
 rename_i c;simp only[Jw]at h;split at h
 ·rename_i hc;cases ha:c.args.toList with
  | nil=>exact⟨False,0,0,.nilSlice,.nilSlice,fun G K=>by simp[jI,hc,ha]⟩
  | cons s r=>
   cases r with
   | nil=>exact⟨False,0,0,.nilSlice,.nilSlice,fun G K=>by simp[jI,hc,ha]⟩
   | cons x r=>
    cases r with
    | cons _ _=>exact⟨False,0,0,.nilSlice,.nilSlice,fun G K=>by simp[jI,hc,ha]⟩
    | nil=>
     cases ht:c.argTypes.toList with
     | nil=>exact⟨False,0,0,.nilSlice,.nilSlice,fun G K=>by simp[jI,hc,ha,ht]⟩
     | cons ts r=>
      cases r with
      | nil=>exact⟨False,0,0,.nilSlice,.nilSlice,fun G K=>by simp[jI,hc,ha,ht]⟩
      | cons tx r=>
       cases r with
       | cons _ _=>exact⟨False,0,0,.nilSlice,.nilSlice,fun G K=>by simp[jI,hc,ha,ht]⟩
       | nil=>
        cases h1:ev env s with
        | none=>exact⟨False,0,0,.nilSlice,.nilSlice,fun G K=>by simp[jI,hc,ha,ht,h1]⟩
        | some s'=>
         cases h2:ev env x with
         | none=>exact⟨False,0,0,.nilSlice,.nilSlice,fun G K=>by simp[jI,hc,ha,ht,h1,h2]⟩
         | some x'=>exact⟨True,ts,tx,s',x',fun G K=>by simp[jI,hc,ha,ht,h1,h2]⟩
 ·cases h
theorem Av {i:TI}{G:ak}{olds vs:List ah}{K:ah->ak->Prop}{id:AId}{o:n6}(hf:lE G id) (h:grow i G olds vs K):grow i (G.upd id o) olds vs fun v G''=>∃ G',lE G' id/\G''=G'.upd id o/\K v G':=by
 obtain⟨h1,h2,h3⟩:=h;refine⟨h1,h2,fun id' cap hf' hc hm=>?_⟩;obtain⟨k1,k2,k3⟩:=hf.Bv hf';exact⟨_,k3 _,zx k2,h3 id' cap k1 hc hm⟩
theorem HR {i:TI}{G:ak}{idr:AId}{p:List Nat}{st off at_:Nat}{vs:List ah}{K:ak->Prop}{id:AId}{o:n6}(hf:lE G id) (h:lay i G idr p st off at_ vs K):lay i (G.upd id o) idr p st off at_ vs fun G''=>∃ G',lE G' id/\G''=G'.upd id o/\K G':=by
 unfold lay at h ⊢;split at h
 ·exact⟨G,hf,rfl,h⟩
 ·split at h
  ·rename_i cs hcs;obtain⟨h1,h2,h3,h⟩:=h;split at h
   ·rename_i G' hG';rw[EL (hf.le o) hcs];refine⟨h1,h2,h3,?_⟩;unfold qS at hG' ⊢;split at hG'
    ·rename_i tr hg;have hne:idr≠id:=hf.ne (by rw[hg];rfl);have hg':G.upd id o idr=some (.own tr):=(by rw[ak.nb _ _ hne];exact hg);rw[hg'];split at hG'
     ·rename_i u hu;injection hG' with hG';subst hG';simp only[hu];refine⟨_,⟨hf.1,hf.2.1,fun j hj=>?_⟩,zx (Ne.symm hne),h⟩;by_cases hj2:j=idr
      ·subst hj2;exact hf.2.2 j (by rw[hg];rfl)
      ·rw[ak.nb _ _ hj2]at hj;exact hf.2.2 j hj
     ·cases hG'
    ·cases hG'
   ·exact h.elim
  ·exact h.elim
theorem Br {T:Tbl}{G:ak}{ts tx:TypeId}{s x:ah}{K:ah->ak->Prop}{id:AId}{o:n6}(hf:lE G id) (h:cn T G ts tx s x K) :
  cn T (G.upd id o) ts tx s x fun v G''=>∃ G',lE G' id/\G''=G'.upd id o/\K v G':=by
 replace h:=h.out
 refine⟨?_⟩;unfold rH at h ⊢;split at h
 ·split at h
  ·split at h
   ·obtain⟨h0,h⟩:=h;refine⟨h0,?_⟩;split at h
    ·rename_i vs hvs;rw[pO (hf.le o) hvs];cases s with
     | nilSlice=>
      simp only at h ⊢;split at h
      ·exact⟨G,hf,rfl,h⟩
      ·exact Av hf h
     | slice id' p st off len cap=>
      simp only at h ⊢;refine⟨fun hle=>HR hf (h.1 hle),fun hlt=>?_⟩;have h:=h.2 hlt;split at h
      ·rename_i olds ho;rw[pO (hf.le o) ho];exact Av hf h
      ·exact h.elim
     | _=>exact h.elim
    ·exact h.elim
   ·exact h.elim
  ·exact h.elim
 ·exact h.elim
end Go.Esc
