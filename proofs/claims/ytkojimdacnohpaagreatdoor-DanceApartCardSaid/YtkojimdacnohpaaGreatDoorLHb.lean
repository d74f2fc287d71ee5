import Derived.Test.YtkojimdacnohpaaGreatDoorEX
import Derived.Test.YtkojimdacnohpaaGreatDoorSS
import Derived.Test.YtkojimdacnohpaaGreatDoorEZ
import Derived.Lib.LaidTab
import Derived.LaidHandle
import Derived.Test.YtkojimdacnohpaaGreatDoorLLib
import Derived.Test.YtkojimdacnohpaaGreatDoorLib
set_option maxHeartbeats 2000000
set_option linter.unusedSimpArgs false
set_option linter.unusedVariables false
set_option maxRecDepth 20000
namespace Go.Esc.M
open Go Go.Esc
def right (a:Int):Bool:=decide (0≤a/\a≤1152921504606846976)
theorem gk.use {a:Int}{G:ak}{Q:ah->ak->Prop}(h:Q (.bool (right a)) G):al P gk.n [.int .i64 a] G Q:=by
 refine gk.sound ?_;simp only[gk.S,fI,kQ,aa,aI];constructor
 ·intro h0;simpa[right,h0] using h
 ·intro h0;simpa[right,h0] using h
def plus (a b:Int):Int×Int:=if right a=true/\right b=true/\right (a+b)=true then (a+b,0) else (0,80)
def vV (p:Int×Int):ah:=.tuple [.int .i64 p.1,.int .i64 p.2]
theorem lZ {a:Int}:right a=true ↔ 0≤a/\a≤1152921504606846976:=by simp[right]
theorem HF {a b:Int}{Q:ah->Prop}(h:Q (vV (plus a b))) :
  brB (some (.bool (!right a))) (Q (.tuple [.int .i64 0,.int .i64 80])) (brB (some (.bool (!right b))) (Q (.tuple [.int .i64 0,.int .i64 80]))
   (brB (some (.bool (!right (IntKind.i64.wrap (a+b))))) (Q (.tuple [.int .i64 0,.int .i64 80])) (Q (.tuple [.int .i64 (IntKind.i64.wrap (a+b)),.int .i64 0])))):=by
 cases ha:right a with
 | false=>simpa[plus,ha,vV] using h
 | true=>
  cases hb:right b with
  | false=>simpa[plus,ha,hb,vV] using h
  | true=>
   have h1:=lZ.1 ha;have h2:=lZ.1 hb;rw[i64_in (by omega) (by omega)];cases hc:right (a+b)<;>simpa[plus,ha,hb,hc,vV] using h
theorem jE.use {a b:Int}{G:ak}{Q:ah->ak->Prop}(h:Q (vV (plus a b)) G):al P jE.n [.int .i64 a,.int .i64 b] G Q:=by
 refine jE.sound ?_;unfold jE.S;refine gk.use ?_;have key:=HF (a:=a) (b:=b) (Q:=fun v=>Q v G) h;cases ha:right a with
 | false=>simpa[ha] using key
 | true=>
  simp only[dx,aa,Bool.not_true,aK];refine gk.use ?_;cases hb:right b with
  | false=>simpa[ha,hb] using key
  | true=>
   simp only[dx,aa,Bool.not_true,aK,bg];refine gk.use ?_;simpa[ha,hb] using key
def tR:Int->List Int->Int×Int
 | n,[]=>(n,0)
 | n,x :: xs=>if (plus n x).2=0 then tR (plus n x).1 xs else (0,(plus n x).2)
theorem K8 (p:Int×Int):aP (vV p) 0=some (.int .i64 p.1):=rfl
theorem K7 (p:Int×Int):aP (vV p) 1=some (.int .i64 p.2):=rfl
theorem jX.use {v:ah}{xs:List Int}{G:ak}{Q:ah->ak->Prop}(hv:ff 1 G v (xs.map (.int .i64))) (hm:xs.length≤9223372036854775807) (h:Q (vV (tR 0 xs)) G) :
  al P jX.n [v] G Q:=by
 refine jX.sound ?_;unfold jX.S;rw[hv.len (i:=lM) oh rfl,aa];intro R hR;rw[List.length_map];have loop:∀ (rest:List Int) (n:Int) (j:Nat),xs.drop j=rest->j≤xs.length->Q (vV (tR n rest)) G->R [.int .i64 n,v,.int .i64 xs.length,.int .i64 j] G:=by
  intro rest;induction rest with
  | nil=>
   intro n j hd hj hq;have:¬ ((j:Int) < xs.length):=by
    have:=List.drop_eq_nil_iff.1 hd;omega
   refine hR _ _ _ _ _ ?_;simp only[aM,aa,aI];exact⟨fun h=>absurd h this,fun _=>hq⟩
  | cons x rest ih=>
   intro n j hd hj hq;have hjl:j < xs.length:=by
    rcases Nat.lt_or_ge j xs.length with h | h
    ·exact h
    ·rw[List.drop_eq_nil_iff.2 h]at hd;cases hd
   have hx:xs[j]?=some x:=by
    rw[<- List.head?_drop,hd];rfl
   obtain⟨a,ha,hl⟩:=hv.at_ (k:=.i64) (j:=j) (c:=.int .i64 x) (i:=lM) (ie:=iZ) (T:=T) (t:=jf) (e:=aq) oh rfl cu (by simp[hx]) rfl;refine hR _ _ _ _ _ ?_;simp only[aM,aa,aI,ha,hl];refine⟨fun _=>jE.use ?_,fun h=>absurd (by omega) h⟩;simp only[K8,K7,aa,cD,dC,bg];rw[i64_in (by omega) (by omega)];simp only[tR]at hq;constructor
   ·intro h0;rw[if_neg h0]at hq;exact hq
   ·intro h0;rw[if_pos h0]at hq;have:=ih (plus n x).1 (j+1) (by rw[<- List.drop_drop,hd];rfl) (by omega) hq;simpa using this
 exact loop xs 0 0 rfl (by omega) h
end Go.Esc.M
set_option linter.unusedSectionVars false
namespace Go.Esc
open Go Go.RowKit Go.ChangeShapes Go.WideShapes
theorem zl {f g:ah->Nat->Prop}(h:∀ c m,f c m->g c m):∀ {cs:List ah}{ms:List Nat},wts f cs ms->wts g cs ms
 | [],[],_=>trivial
 | c :: cs,m :: ms,k=>⟨h _ _ k.1,zl h k.2⟩
theorem Dx {f g:TypeId->ah->Nat->Prop}(h:∀ t c m,f t c m->g t c m):∀ {fs:List (TypeId×Nat)}{cs:List ah}{ms:List Nat},wfs f fs cs ms->wfs g fs cs ms
 | [],[],[],_=>trivial
 | x :: fs,c :: cs,m :: ms,k=>⟨h _ _ _ k.1,Dx h k.2⟩
theorem Gi {T:Tbl}{G G':ak}(hle:pa G G') {R:Nat}:∀ (d:Nat) {t:TypeId}{v:ah}{m:Nat},wt T G R d t v m->wt T G' R d t v m
 | 0,_,_,_,h=>h
 | d+1,t,v,m,h=>by
  have ih:∀ e c n,wt T G R d e c n->wt T G' R d e c n:=fun e c n=>Gi hle d;rw[wt]at h ⊢;split at h
  ·exact h
  ·rename_i i hi;split at h
   ·exact h
   ·exact h
   ·exact h
   ·split at h
    ·exact h
    ·rcases h with h | ⟨id,len,cap,cs,ms,h1,h2,h3,h4,h5,h6,h7,h8,h9,h10⟩
     ·exact .inl h
     ·exact .inr ⟨id,len,cap,cs,ms,h1,h2,h3,h4,hle _ _ h5,h6,h7,h8,zl (ih _) h9,h10⟩
   ·obtain⟨cs,ms,h1,h2,h3⟩:=h;exact⟨cs,ms,h1,Dx (fun t=>ih t) h2,h3⟩
   ·obtain⟨cs,ms,h1,h2,h3,h4⟩:=h;exact⟨cs,ms,h1,h2,zl (ih _) h3,h4⟩
   ·exact h.elim
theorem Ds {T:Tbl}{G G':ak}(hle:pa G G') {R d:Nat}:∀ {ts:List TypeId}{vs:List ah}{ms:List Nat},wtl T G R d ts vs ms->wtl T G' R d ts vs ms
 | [],[],[],_=>trivial
 | t :: ts,v :: vs,m :: ms,h=>⟨Gi hle d h.1,Ds hle h.2⟩
structure Laid (W:World) where
 row:AId->Option ah
 ok:∀ id t,row id=some t->id.win=0/\id.block < W.heap.size/\∀ j u,(flat t)[j]?=some u->W.cell? ⟨id.block,id.start+j,none⟩=some u
noncomputable def wj (W:World) (T:Tbl) (X:Laid W):lq where
 w0:=W
 prot:=fun b=>b < W.heap.size
 lt:=fun _ h=>h
 ro:=fun id=>match X.row id with
  | some t=>some t
  | none=>roW W T id
 cells:=fun id t h=>by
  split at h
  ·rename_i t' ht
   injection h with h
   subst h
   exact (X.ok _ _ ht).2
  ·exact (zf W T).cells id t h
noncomputable def qd (W:World) (T:Tbl) (X:Laid W):ak:=fun id=>((wj W T X).ro id).map .ro
theorem KE (W:World) (T:Tbl) (X:Laid W):Rel (wj W T X) (qd W T X) W:=by
 refine⟨rfl,rfl,rfl,Nat.le_refl _,fun _ _=>rfl,fun id o ho=>?_⟩;simp only[qd,Option.map_eq_some_iff]at ho;obtain⟨t,ht,rfl⟩:=ho;exact ht
theorem KD (W:World) (T:Tbl) (X:Laid W):pa (nP W T) (qd W T X):=by
 intro id t h;simp only[nP,Option.map_eq_some_iff]at h;obtain⟨t',ht,h⟩:=h;injection h with h;subst h;have hx:X.row id=none:=by
  cases hx:X.row id with
  | none=>rfl
  | some t=>
   have:=(X.ok _ _ hx).1;unfold roW at ht;rw[this]at ht;cases ht
 show Option.map _ (match X.row id with | some t=>some t | none=>roW W T id)=_;rw[hx];simp only[ht,Option.map_some]
theorem Jt {W:World}{T:Tbl}{X:Laid W}{id:AId}{t:ah}(h:X.row id=some t):qd W T X id=some (.ro t):=by
 show Option.map _ (match X.row id with | some t=>some t | none=>roW W T id)=_;rw[h];rfl
theorem F3 {W:World}{T:Tbl}{X:Laid W}{G':ak}{w':World}(h:Rel (wj W T X) G' w'):Below W.heap.size W w':=⟨h.os,h.tape,h.output,h.size,fun k hk=>h.qU k hk⟩
section
variable {H:Type}{enc:TypeId×Value->H}{P:Program}{T:Tbl} (hT:gF P T) {W:World}{R:Nat}
include hT in
theorem Js {R:Nat}{f:FuncId}{fn:Func}{s:ChangeSpec}{d:Nat}{tb:TypeId}(X:Laid W) (laid:laidOutB P=true) (hf:P.funcs[f]?=some fn) (hb:fn.body.isSome=true) (hname:(fn.name == "runtime.NumGoroutine")=false)
  (hread:fn.params.toList.all (fun t=>P.readableRec t && Nat.blt t P.types.size)=true) (hsup:fn.params.toList.all (sup T d true)=true)
  (hvars:s.vars=[]) (hres:fn.resultTypes=#[tb]) (htb:P.underlying tb=some .bool)
  {base:Nat}{args:Array Value}{ds gs:List (DataW H)}{before:List MemPlace}
  (hfn:ds.length=fn.params.size->(s.fn H (ds++[])).results=[.lit (.bool true)]/\(s.fn H (ds++[])).args=ds/\(s.fn H (ds++[])).vars=[])
  (hval:∀ (j:Nat) t v,fn.params[j]?=some t->args[j]?=some v->Value.okWide P W .any base t v)
  (hW:DataW.Whole enc P fn.params.toList s.vars false W args.toList ds gs before) (hw:∀ n∈DataW.weightsEach P fn.params.toList ds,n≤R)
  (law:∀ avs ms,wtl T (qd W T X) R d fn.params.toList avs ms->ms.sum=ky ds->al P f avs (qd W T X) fun v _=>v=.bool true) :
  Calls P f args W fun e W'=>∃ v,e=.returned v/\s.post enc P fn false true false false W args v W':=by
 have hW':=hW;obtain⟨p,q,hA,hV,rfl,hfz,hnd⟩:=hW;rw[hvars]at hV;obtain⟨rfl,rfl⟩:=trodVars_none hV;obtain⟨avs,ms,hvs,hwt,hsum⟩:=Ad hT hA (fun j t v a b=>.inr ⟨base,hval j t v (by simpa using a) (by simpa using b)⟩) hsup hw;have hargs:args=(cvs avs).toArray:=by
  rw[<- hvs]
 rw[hargs];refine ((law avs ms (Ds (KD W T X) hwt) hsum (wj W T X) W (KE W T X)).calls hf hb hname).mono fun e W' ⟨u,he,v,G',hu,hr,hv⟩=>?_;subst hu hv he;have bel:=F3 hr;have hlen:ds.length=fn.params.size:=by
  have:∀ {ts:List TypeId}{vs:List Value}{ds:List (DataW H)}{p:List MemPlace},DataW.TrodAll enc P W 0 (fun _=>true) true ts vs ds p->ds.length=ts.length:=by
   intro ts;induction ts with
   | nil=>
    intro vs ds p h;cases vs<;>cases ds<;>first | rfl | exact h.elim
   | cons t ts ih=>
    intro vs ds p h;cases vs<;>cases ds<;>try (exact h.elim)
    obtain⟨_,_,_,h2,_⟩:=h;simp[ih h2]
  simpa using this hA
 obtain⟨f1,f2,f3⟩:=hfn hlen;refine⟨_,rfl,ds,[],_,[],p,[],by rw[hargs]at hW';exact hW',?_,?_,?_,bel.frame _,fun h=>by cases h⟩
 ·rw[f1,hres];exact trodAll_mk1 (by
   refine⟨1,?_⟩
   simp[DataW.trod,htb,cv,Value.cells])
 ·rw[f2];rw[hargs]at hA;exact stays laid bel hread hA
 ·rw[f3,hvars];exact rfl
end
def Hy (zs:List Int):ah:=.agg (zs.map (.int .u8))
theorem JE (zs:List Int):flat (Hy zs)=zs.map fun z=>Value.int .u8 z:=by
 rw[Hy,flat_agg,o8]
def Gx {P:Program}{W:World}{name:String}{g:Nat}{zs:List Int} (hg:P.globalNamed name=some g) (h:Lib.TabIs P W name .u8 zs) (hz:zs≠[]):Laid W where
 row:=fun id=>if id=⟨g,0,0⟩ then some (Hy zs) else none
 ok:=fun id t ht=>by
  split at ht
  ·rename_i hid
   injection ht with ht
   subst ht hid
   have hc:∀ i,i < zs.length->W.cell? ⟨g,i,none⟩=some (.int .u8 (zs.getD i 0)):=fun i hi=>h.cell hg i hi
   refine⟨rfl,?_,fun j u hu=>?_⟩
   ·have:=hc 0 (List.length_pos_iff.2 hz)
    exact World.block_lt_of_cell? _ _ this
   ·rw[JE,List.getElem?_map]at hu
    cases hz':zs[j]? with
    | none=>rw[hz']at hu;cases hu
    | some z=>
     rw[hz']at hu
     injection hu with hu
     subst hu
     have hj:=(List.getElem?_eq_some_iff.1 hz').1
     rw[Nat.zero_add,hc j hj,List.getD_eq_getElem?_getD,hz']
     rfl
  ·cases ht
end Go.Esc
namespace Go.Esc
open Go Go.RowKit
structure LP where
 p:ak->List AId->Prop
 rows:∀ {G F},p G F->∀ j∈F,(G j).isSome=true
 loc:∀ {G G' F},p G F->(∀ j∈F,G' j=G j)->p G' F
def Sps:List LP->List (List AId)->ak->Prop
 | [],[],_=>True
 | p :: ps,F :: Fs,G=>p.p G F/\(∀ j∈F,j ∉ Fs.flatten)/\Sps ps Fs G
 | _,_,_=>False
theorem Sps.rows {ps:List LP}{Fs:List (List AId)}{G:ak}(h:Sps ps Fs G):∀ j∈Fs.flatten,(G j).isSome=true:=by
 induction ps generalizing Fs with
 | nil=>cases Fs with
  | nil=>simp
  | cons F Fs=>exact h.elim
 | cons p ps ih=>cases Fs with
  | nil=>exact h.elim
  | cons F Fs=>
   obtain⟨h1,h2,h3⟩:=h;intro j hj;simp only[List.flatten_cons,List.mem_append]at hj;rcases hj with hj | hj
   ·exact p.rows h1 j hj
   ·exact ih h3 j hj
theorem Sps.same {ps:List LP}{Fs:List (List AId)}{G G':ak}(h:Sps ps Fs G) (hs:∀ j∈Fs.flatten,G' j=G j):Sps ps Fs G':=by
 induction ps generalizing Fs with
 | nil=>cases Fs with
  | nil=>trivial
  | cons F Fs=>exact h.elim
 | cons p ps ih=>cases Fs with
  | nil=>exact h.elim
  | cons F Fs=>
   obtain⟨h1,h2,h3⟩:=h;exact⟨p.loc h1 fun j hj=>hs j (by simp[hj]),h2,ih h3 fun j hj=>hs j (by simp only[List.flatten_cons,List.mem_append];exact .inr hj)⟩
theorem Sps.step {ps:List LP}{Fs:List (List AId)}{G:ak}(h:Sps ps Fs G) {i:Nat}{p:LP}(hi:ps[i]?=some p) :
  ∃ F,p.p G F/\(∀ j∈F,j∈Fs.flatten)/\∀ p' F' G',LP.p p' G' F'->Ch F G F' G'->Sps (ps.set i p') (Fs.set i F') G'/\∀ j∈(Fs.set i F').flatten,j∈F'\/j∈Fs.flatten:=by
 induction ps generalizing Fs i with
 | nil=>simp at hi
 | cons q ps ih=>cases Fs with
  | nil=>exact h.elim
  | cons E Fs=>
   obtain⟨h1,h2,h3⟩:=h;cases i with
   | zero=>
    simp only[List.getElem?_cons_zero,Option.some.injEq]at hi;subst hi;refine⟨E,h1,fun j hj=>by simp[hj],fun p' F' G' hp' hc=>⟨⟨hp',?_,h3.same fun j hj=>?_⟩,fun j hj=>?_⟩⟩
    ·intro j hj hm;rcases hc.row j hj with h' | h'
     ·exact h2 j h' hm
     ·have:=h3.rows j hm;rw[h']at this;cases this
    ·exact hc.same (E:=Fs.flatten) h3.rows (fun j hj he=>h2 j he hj) j hj
    ·simp only[List.set_cons_zero,List.flatten_cons,List.mem_append]at hj ⊢;exact hj.imp id .inr
   | succ i=>
    simp only[List.getElem?_cons_succ]at hi;obtain⟨F,k1,k2,k3⟩:=ih h3 hi;refine⟨F,k1,fun j hj=>by simp only[List.flatten_cons,List.mem_append];exact .inr (k2 j hj),fun p' F' G' hp' hc=>?_⟩;obtain⟨m1,m2⟩:=k3 p' F' G' hp' hc;have hEF:∀ j∈E,j ∉ F:=fun j hj hm=>h2 j hj (k2 j hm);refine⟨⟨q.loc h1 fun j hj=>hc.same (E:=E) (q.rows h1) hEF j hj,fun j hj hm=>?_,m1⟩,fun j hj=>?_⟩
    ·rcases m2 j hm with h' | h'
     ·exact hc.apart (E:=E) (q.rows h1) hEF j hj h'
     ·exact h2 j hj h'
    ·simp only[List.set_cons_succ,List.flatten_cons,List.mem_append]at hj ⊢;rcases hj with hj | hj
     ·exact .inr (.inl hj)
     ·exact (m2 j hj).imp id .inr
def Sp (F0:List AId) (G0:ak) (ps:List LP) (G:ak):Prop:=∃ Fs,Sps ps Fs G/\Ch F0 G0 Fs.flatten G
theorem Sp.nil (G:ak):Sp [] G [] G:=⟨[],trivial,Ch.refl _ _⟩
theorem Sp.one {p:LP}{F:List AId}{G:ak}(h:p.p G F):Sp F G [p] G:=⟨[F],⟨h,by simp,trivial⟩,by simpa using Ch.refl _ _⟩
section
variable {F0:List AId}{G0 G:ak}{ps:List LP}
theorem Sp.call {p:LP}{i:Nat}(h:Sp F0 G0 ps G) (hi:ps[i]?=some p) (p':LP) {X:Prop}
  (hc:∀ F,p.p G F->(∀ F' G',p'.p G' F'->Ch F G F' G'->Sp F0 G0 (ps.set i p') G')->X):X:=by
 obtain⟨Fs,h1,h2⟩:=h;obtain⟨F,k1,k2,k3⟩:=h1.step hi;refine hc F k1 fun F' G' hp' hch=>?_;obtain⟨m1,m2⟩:=k3 p' F' G' hp' hch;exact⟨_,m1,h2.trans (hch.sub k2 m2)⟩
theorem Sp.get {p:LP}{i:Nat}(h:Sp F0 G0 ps G) (hi:ps[i]?=some p):∃ F,p.p G F:=by
 obtain⟨Fs,h1,h2⟩:=h;obtain⟨F,k1,_⟩:=h1.step hi;exact⟨F,k1⟩
theorem Sp.tmp {G':ak}{E:List AId}(h:Sp F0 G0 ps G) (hc:Ch [] G E G'):Sp F0 G0 ps G':=by
 obtain⟨Fs,h1,h2⟩:=h;exact⟨Fs,h1.same fun j hj=>hc.same (E:=Fs.flatten) h1.rows (by simp) j hj,h2.trans hc.drop.grow⟩
theorem Sp.new {p:LP}{F':List AId}{G':ak}(h:Sp F0 G0 ps G) (hp:p.p G' F') (hc:Ch [] G F' G'):Sp F0 G0 (p :: ps) G':=by
 obtain⟨Fs,h1,h2⟩:=h;refine⟨F' :: Fs,⟨hp,fun j hj hm=>?_,h1.same fun j hj=>hc.same (E:=Fs.flatten) h1.rows (by simp) j hj⟩,h2.trans ?_⟩
 ·rcases hc.row j hj with h' | h'
  ·simp at h'
  ·have:=h1.rows j hm;rw[h']at this;cases this
 ·have:=hc.more (E:=Fs.flatten);simpa using this
theorem Sps.erase {Fs:List (List AId)}(h:Sps ps Fs G) (i:Nat):Sps (ps.eraseIdx i) (Fs.eraseIdx i) G:=by
 induction ps generalizing Fs i with
 | nil=>cases Fs with
  | nil=>simpa using h
  | cons F Fs=>exact h.elim
 | cons q ps ih=>cases Fs with
  | nil=>exact h.elim
  | cons E Fs=>
   obtain⟨h1,h2,h3⟩:=h;cases i with
   | zero=>exact h3
   | succ i=>exact⟨h1,fun j hj hm=>h2 j hj (by
     simp only[List.mem_flatten]at hm ⊢
     obtain⟨l,hl,hj⟩:=hm
     exact⟨l,List.mem_of_mem_eraseIdx hl,hj⟩),ih h3 i⟩
theorem Sp.erase (h:Sp F0 G0 ps G) (i:Nat):Sp F0 G0 (ps.eraseIdx i) G:=by
 obtain⟨Fs,h1,h2⟩:=h;refine⟨_,h1.erase i,h2.ro,h2.others,fun j hj=>h2.row j ?_⟩;simp only[List.mem_flatten]at hj ⊢;obtain⟨l,hl,hj⟩:=hj;exact⟨l,List.mem_of_mem_eraseIdx hl,hj⟩
theorem Sp.ro (h:Sp F0 G0 ps G):pa G0 G:=h.elim fun _ h=>h.2.ro
theorem Sp.ch (h:Sp [] G0 ps G):Ch [] G0 [] G:=h.elim fun _ h=>h.2.drop
theorem Sp.out {p:LP}(h:Sp F0 G0 [p] G):∃ F,p.p G F/\Ch F0 G0 F G:=by
 obtain⟨Fs,h1,h2⟩:=h
 match Fs,h1 with
 | [F],h1=>exact⟨F,h1.1,by simpa using h2⟩
theorem Sp.start {F:List AId}{G:ak}{p:LP}(h:p.p G F):Sp F G [p] G:=Sp.one h
theorem Sp.rest (h:Sp F0 G0 ps G):∃ F,Ch F0 G0 F G:=h.elim fun Fs h=>⟨_,h.2⟩
end
def au (id:AId) (t:ah):LP where
 p:=fun G F=>G id=some (.own t)/\F=[id]
 rows:=by rintro G F ⟨h,rfl⟩ j hj;simp at hj;subst hj;simp[h]
 loc:=by rintro G G' F ⟨h,rfl⟩ hs;exact⟨by rw[hs id (by simp)];exact h,rfl⟩
def bm (n:Nat) (v:ah) (vs:List ah):LP where
 p:=fun G F=>Own n G v vs/\F=(rowOf v).toList
 rows:=by
  rintro G F ⟨h,rfl⟩ j hj
  rcases h with ⟨rfl,_⟩ | ⟨id,len,cap,cs,rfl,hg,_⟩
  ·simp[rowOf]at hj
  ·simp[rowOf]at hj;subst hj;simp[hg]
 loc:=by
  rintro G G' F ⟨h,rfl⟩ hs
  refine⟨?_,rfl⟩
  rcases h with h | ⟨id,len,cap,cs,rfl,hg,h⟩
  ·exact .inl h
  ·exact .inr ⟨id,len,cap,cs,rfl,by rw[hs id (by simp[rowOf])];exact hg,h⟩
def WrL (id:AId) (bs:List UInt8) (f:Int):LP where
 p:=fun G F=>WrP id bs f G F
 rows:=fun h=>h.rows
 loc:=fun h hs=>h.frame hs
theorem Kept.ch {s s':ah}{G G':ak}(h:Kept s G s' G'):Ch (rowOf s).toList G (rowOf s').toList G':=
 ⟨h.ro,fun j o hj hn=>h.others j o hj fun e=>hn (by simp[e]),fun j hj=>(h.row j (by simpa using hj)).imp (fun h=>by simp[h]) id⟩
theorem lE.ch {G:ak}{id:AId}{o:n6}(hf:lE G id):Ch [] G [] (G.upd id o):=(Ch.new hf).drop.less
def wL {α:Type} (f:α->Nat->Prop):List α->List Nat->Prop
 | [],[]=>True
 | c :: cs,m :: ms=>f c m/\wL f cs ms
 | _,_=>False
theorem wL.take {α:Type}{f:α->Nat->Prop}:∀ {cs:List α}{ms:List Nat}(k:Nat),wL f cs ms->wL f (cs.take k) (ms.take k)
 | [],[],k,_=>by simp[wL]
 | c :: cs,m :: ms,0,_=>by simp[wL]
 | c :: cs,m :: ms,k+1,h=>⟨h.1,h.2.take k⟩
theorem wL.get {α:Type}{f:α->Nat->Prop}:∀ {cs:List α}{ms:List Nat}{i:Nat}{c:α},wL f cs ms->cs[i]?=some c->∃ m,f c m/\m≤ms.sum
 | [],[],i,c,_,h=>by simp at h
 | x :: cs,m :: ms,0,c,h,e=>by simp at e;subst e;exact⟨m,h.1,by simp⟩
 | x :: cs,m :: ms,i+1,c,h,e=>by
  obtain⟨m',h1,h2⟩:=h.2.get (by simpa using e);exact⟨m',h1,by simp;omega⟩
theorem wL.mem {α:Type}{f:α->Nat->Prop}{cs:List α}{ms:List Nat}{c:α}(h:wL f cs ms) (hc:c∈cs):∃ m,f c m/\m≤ms.sum:=by
 obtain⟨i,hi⟩:=List.getElem?_of_mem hc;exact h.get hi
theorem wL.length {α:Type}{f:α->Nat->Prop}(h1:∀ c m,f c m->1≤m):∀ {cs:List α}{ms:List Nat},wL f cs ms->cs.length≤ms.sum
 | [],[],_=>by simp
 | c :: cs,m :: ms,h=>by
  have:=h.2.length h1;have:=h1 c m h.1;simp;omega
theorem yd:∀ (l:List Nat) (k:Nat),(l.take k).sum≤l.sum
 | [],k=>by simp
 | x :: l,0=>by simp
 | x :: l,k+1=>by have:=yd l k;simp;omega
theorem Gh {α:Type}{f:ah->Nat->Prop}{av:α->ah}{Pr:α->Nat->Prop}(hel:∀ c m,f c m->∃ x,c=av x/\Pr x m):∀ {cs:List ah}{ms:List Nat},wts f cs ms->∃ xs:List α,cs=xs.map av/\wL Pr xs ms
 | [],[],_=>⟨[],rfl,trivial⟩
 | c :: cs,m :: ms,h=>by
  obtain⟨x,rfl,h1⟩:=hel c m h.1;obtain⟨xs,rfl,h2⟩:=Gh hel h.2;exact⟨x :: xs,rfl,h1,h2⟩
theorem Mc {α:Type}(av:α->ah) (Pr:α->Nat->Prop) {T:Tbl}{G:ak}{R d:Nat}{t e:TypeId}{i ie:TI}{v:ah}{m:Nat}(ht:T t=some i) (hd:i.desc=.slice e) (he:T e=some ie)
  (hel:∀ c m,wt T G R d e c m->∃ x,c=av x/\Pr x m) (h:wt T G R (d+1) t v m) :
  ∃ (xs:List α) (ms:List Nat),sS ie.size G v (xs.map av)/\wL Pr xs ms/\ms.sum+1≤m/\xs.length * ie.bytes≤R/\xs.length≤maxLen:=by
 rw[wt]at h;simp only[ht,hd,he]at h;rcases h with ⟨rfl,rfl⟩ | ⟨id,len,cap,cs,ms,rfl,hl,hm,hR,hg,hcl,hu,_,hw,rfl⟩
 ·exact⟨[],[],.inr ⟨rfl,rfl⟩,trivial,by simp,by simp,by simp⟩
 ·obtain⟨xs,rfl,h2⟩:=Gh hel hw;simp only[List.length_map]at hcl;refine⟨xs.take len,ms.take len,.inl ⟨id,[],0,0,len,cap,_,rfl,hl,hg,?_⟩,h2.take _,?_,?_,?_⟩
  ·rw[List.map_take];exact (qf hg rfl hu (by simp[hcl,hl])).elems
  ·have:=yd ms len;omega
  ·rw[List.length_take,Nat.min_eq_left (by omega)];exact Nat.le_trans (Nat.mul_le_mul_right _ hl) hR
  ·rw[List.length_take,Nat.min_eq_left (by omega)];omega
theorem Iv {T:Tbl}{G:ak}{R d:Nat}{t:TypeId}{i:TI}(ht:T t=some i) (hd:i.desc=.int .u8):∀ {cs:List ah}{ms:List Nat},wts (wt T G R (d+1) t) cs ms->∃ xs:List UInt8,cs=xs.map u8v/\ms.sum=xs.length
 | [],[],_=>⟨[],rfl,rfl⟩
 | c :: cs,m :: ms,⟨h1,h2⟩=>by
  obtain⟨xs,rfl,h5⟩:=Iv ht hd h2;simp only[wt,ht,hd]at h1;obtain⟨n,rfl,hw,rfl⟩:=h1;have:=Me.1 hw;refine⟨UInt8.ofNat n.toNat :: xs,?_,by simp[h5];omega⟩;simp only[List.map_cons,nr];congr 2;omega
theorem Cw {T:Tbl}{G:ak}{R d:Nat}{t e:TypeId}{i ie:TI}{v:ah}{m n:Nat}(ht:T t=some i) (hd:i.desc=.array n e) (he:T e=some ie) (hde:ie.desc=.int .u8) (h:wt T G R (d+2) t v m) :
  ∃ xs:List UInt8,v=.agg (xs.map u8v)/\xs.length=n/\m=n+1:=by
 rw[wt]at h;simp only[ht,hd]at h;obtain⟨cs,ms,rfl,hl,hw,rfl⟩:=h;obtain⟨xs,rfl,h2⟩:=Iv he hde hw;simp only[List.length_map]at hl;exact⟨xs,rfl,hl,by omega⟩
theorem nA {f:TypeId->ah->Nat->Prop}{g:TypeId×Nat}{fs:List (TypeId×Nat)}{cs:List ah}{ms:List Nat}(h:wfs f (g :: fs) cs ms) :
  ∃ c cs' m ms',cs=c :: cs'/\ms=m :: ms'/\f g.1 c m/\wfs f fs cs' ms':=by
 cases cs<;>cases ms<;>first | exact h.elim | exact⟨_,_,_,_,rfl,rfl,h.1,h.2⟩
theorem Gk {f:TypeId->ah->Nat->Prop}{cs:List ah}{ms:List Nat}(h:wfs f [] cs ms):cs=[]/\ms=[]:=by
 cases cs<;>cases ms<;>first | exact h.elim | exact⟨rfl,rfl⟩
theorem wP {T:Tbl}{G:ak}{R d:Nat}{t:TypeId}{i:TI}{fs:List (TypeId×Nat)}{v:ah}{m:Nat}(ht:T t=some i) (hd:i.desc=.struct fs) (h:wt T G R (d+1) t v m) :
  ∃ cs ms,v=.agg cs/\wfs (wt T G R d) fs cs ms/\m=ms.sum+1:=by
 rw[wt]at h;simpa only [ht,hd] using h
section
variable {T:Tbl}{t e:TypeId}{i ie:TI} (ht:T t=some i) (hd:i.desc=.slice e) (he:T e=some ie)
include ht hd he in
theorem ff.fld {fs:List (TypeId×Nat)}{f o:Nat}{tf:TypeId}{fi:TI}(hde:ie.desc=.struct fs) (hf:fs[f]?=some (tf,o)) (hft:T tf=some fi) (hz:fi.size≠0)
  {G:ak}{v:ah}{vs cs:List ah} (h:ff ie.size G v vs) {k:IntKind}{j:Nat}{c:ah} (hj:vs[j]?=some (.agg cs)) (hs:szs (cs.take f)=o) (hc:cs[f]?=some c) (hfit:dD fi c=true) :
  ∃ a b,aO T t v (.int k j)=some a/\bt T e a f=some b/\ag T G tf b=some c:=by
 rcases h with ⟨id,p,st,off,len,cap,rfl,h⟩ | ⟨rfl,rfl⟩
 ·obtain⟨ds,h1,h0,h2,h3,rfl,_⟩:=mY h;have hjl:j < len:=by
   have:=(List.getElem?_eq_some_iff.1 hj).1;simp only[List.length_take,List.length_drop]at this;omega
  have hcs:ds[st+j]?=some (.agg cs):=by
   rw[List.getElem?_take_of_lt hjl,List.getElem?_drop]at hj;exact hj
  refine⟨.ptr id (p++[st+j]) (off+j * ie.size),.ptr id (p++[st+j]++[f]) (off+j * ie.size+o),?_,?_,?_⟩
  ·simp only[aO,ht,hd,he];rw[if_pos ⟨by omega,by omega⟩];simp
  ·simp only[bt,he,hde,hf,hft];rw[if_neg hz]
  ·have hlt:st+j < ds.length:=(List.getElem?_eq_some_iff.1 hcs).1;have hsz:szs (ds.take (st+j))=(st+j) * ie.size:=by
    rw[gX (j0 h2 _),List.length_take,Nat.min_eq_left (by omega)]
   have h4:=sW h1 hsz hcs;rw[show off-st * ie.size+(st+j) * ie.size=off+j * ie.size by rw[Nat.add_mul];omega]at h4;have h5:=sW h4 hs hc;simp only[ag,h5,hft];rw[if_pos hfit]
 ·simp at hj
include ht hd he in
theorem sS.fld {fs:List (TypeId×Nat)}{f o:Nat}{tf:TypeId}{fi:TI}(hde:ie.desc=.struct fs) (hf:fs[f]?=some (tf,o)) (hft:T tf=some fi) (hz:fi.size≠0)
  {G:ak}{v:ah}{vs cs:List ah} (h:sS ie.size G v vs) {k:IntKind}{j:Nat}{c:ah} (hj:vs[j]?=some (.agg cs)) (hs:szs (cs.take f)=o) (hc:cs[f]?=some c) (hfit:dD fi c=true) :
  ∃ a b,aO T t v (.int k j)=some a/\bt T e a f=some b/\∀ G',pa G G'->ag T G' tf b=some c:=by
 obtain⟨a,b,h1,h2,_⟩:=h.is.fld (k:=k) ht hd he hde hf hft hz hj hs hc hfit;refine⟨a,b,h1,h2,fun G' hle=>?_⟩;obtain⟨a',b',k1,k2,k3⟩:=(h.mono hle).is.fld (k:=k) ht hd he hde hf hft hz hj hs hc hfit;rw[h1]at k1;injection k1 with k1;subst k1;rw[h2]at k2;injection k2 with k2;subst k2;exact k3
end
theorem xL {T:Tbl}{e:TypeId}{ie:TI}(he:T e=some ie) (hde:ie.desc=.int .u8) (hz:ie.size=1) (d:Nat):∀ (n:Nat) (a b:List UInt8),a.length=n->b.length=n ->
  eqA ie (kV T (d+1) e) n (a.map u8v) (b.map u8v)=some (decide (a=b))
 | 0,[],[],_,_=>rfl
 | n+1,x :: a,y :: b,ha,hb=>by
  have ih:=xL he hde hz d n a b (by simpa using ha) (by simpa using hb);have hv:∀ z:UInt8,dD ie (u8v z)=true:=fun z=>by simp[dD,u8v,sz,hz,ah.isAgg,hde,kZ.isAgg]
  have hq:kV T (d+1) e (u8v x) (u8v y)=some (decide (x=y)):=by
   have:((x.toNat:Int)=(y.toNat:Int)) ↔ x=y:=by
    rw[Int.natCast_inj,UInt8.toNat_inj]
   simp only[kV,he,hde,u8v,if_true];simp only[this]
  simp only[List.map_cons,eqA,hv,Bool.and_self,if_true,hq];by_cases h:x=y
  ·subst h;simp[ih]
  ·simp[h]
theorem q8 {T:Tbl}{t e:TypeId}{i ie:TI}{n:Nat}{xs ys:List ah}(ht:T t=some i) (hd:i.desc=.array n e) (he:T e=some ie) (d:Nat):kV T (d+1) t (.agg xs) (.agg ys)=eqA ie (kV T d e) n xs ys:=by
 rw[kV];simp only[ht,hd,he]
theorem wT {T:Tbl}{t e:TypeId}{i ie:TI}{n:Nat}{a b:List UInt8}(ht:T t=some i) (hd:i.desc=.array n e) (he:T e=some ie) (hde:ie.desc=.int .u8) (hz:ie.size=1) (ha:a.length=n) (hb:b.length=n) :
  az T .eql t (.agg (a.map u8v)) (.agg (b.map u8v))=some (.bool (decide (a=b))):=by
 simp only[az,q8 ht hd he,xL he hde hz 7 n a b ha hb]
theorem Bu {T:Tbl}{t e:TypeId}{i ie:TI}{n:Nat}{a b:List UInt8}(ht:T t=some i) (hd:i.desc=.array n e) (he:T e=some ie) (hde:ie.desc=.int .u8) (hz:ie.size=1) (ha:a.length=n) (hb:b.length=n) :
  az T .neq t (.agg (a.map u8v)) (.agg (b.map u8v))=some (.bool (!decide (a=b))):=by
 simp only[az,q8 ht hd he,xL he hde hz 7 n a b ha hb]
theorem au.own {F0:List AId}{G0 G:ak}{ps:List LP}{i:Nat}{id:AId}{t:ah}(h:Sp F0 G0 ps G) (hi:ps[i]?=some (au id t)):G id=some (.own t):=by
 obtain⟨F,h,_⟩:=h.get hi;exact h
theorem Sp.row {F0:List AId}{G0 G:ak}{ps:List LP}{id:AId}(h:Sp F0 G0 ps G) (hf:lE G id) (t:ah):Sp F0 G0 (au id t :: ps) (G.upd id (.own t)):=
 h.new (p:=au id t) ⟨ak.dR _ _ _,rfl⟩ (Ch.new hf)
theorem EM (a:Int) (k:Nat) (hk:k≤63):IntKind.i64.wrap ((BitVec.ofInt IntKind.i64.bits a &&& BitVec.ofInt IntKind.i64.bits ((2 ^ k-1:Nat):Int)).toNat:Nat)=a % ((2 ^ k:Nat):Int):=by
 have hbits:IntKind.i64.bits=64:=rfl;have hp:2 ^ k≤2 ^ 63:=Nat.pow_le_pow_right (by omega) hk;have hp0:0 < 2 ^ k:=Nat.pow_pos (by omega);have h1:(BitVec.ofInt IntKind.i64.bits a &&& BitVec.ofInt IntKind.i64.bits ((2 ^ k-1:Nat):Int)).toNat=(a % ((2 ^ k:Nat):Int)).toNat:=by
  rw[BitVec.toNat_and,BitVec.ofInt_natCast,BitVec.toNat_ofNat,hbits,Nat.mod_eq_of_lt (a:=2 ^ k-1) (by omega),Nat.and_two_pow_sub_one_eq_mod,BitVec.toNat_ofInt];have hd:((2 ^ k:Nat):Int) ∣ ((2 ^ 64:Nat):Int):=by
   refine Int.natCast_dvd_natCast.2 (Nat.pow_dvd_pow 2 (by omega))
  have h2:(a % ((2 ^ 64:Nat):Int)) % ((2 ^ k:Nat):Int)=a % ((2 ^ k:Nat):Int):=Int.emod_emod_of_dvd a hd;have h3:0≤a % ((2 ^ 64:Nat):Int):=Int.emod_nonneg _ (by decide);have h4:((a % ((2 ^ 64:Nat):Int)).toNat:Int)=a % ((2 ^ 64:Nat):Int):=Int.toNat_of_nonneg h3;have h5:(((a % ((2 ^ 64:Nat):Int)).toNat % 2 ^ k:Nat):Int)=a % ((2 ^ k:Nat):Int):=by
   rw[Int.natCast_emod,h4,h2]
  omega
 rw[h1];have h6:0≤a % ((2 ^ k:Nat):Int):=Int.emod_nonneg _ (by omega);have h7:a % ((2 ^ k:Nat):Int) < ((2 ^ k:Nat):Int):=Int.emod_lt_of_pos _ (by omega);rw[Int.toNat_of_nonneg h6];exact i64_in (by omega) (by omega)
end Go.Esc
namespace Go.Esc.M
open Go Go.Esc
section
variable {G:ak}
theorem sZ {i:AId}{o o':n6}(h:G i=some o) (ho:∀ t,o≠.ro t):Ch [i] G [i] (G.upd i o'):=
 ⟨tq h ho,fun j x hj hn=>by rw[ak.nb _ _ (fun e=>hn (by simp[e]))];exact hj,fun j hj=>.inl hj⟩
theorem Sp.setRow {F0:List AId}{G0:ak}{ps:List LP}{j:Nat}{i:AId}{t:ah}(h:Sp F0 G0 ps G) (hj:ps[j]?=some (au i t)) (t':ah):Sp F0 G0 (ps.set j (au i t')) (G.upd i (.own t')):=by
 refine h.call hj (au i t') fun F h k=>?_;obtain⟨h,rfl⟩:=h;exact k _ _ ⟨ak.dR _ _ _,rfl⟩ (sZ h (by simp))
end
theorem mF:dm=.agg ((List.replicate 32 (0:UInt8)).map u8v):=rfl
section
variable {G:ak}
theorem JV {i:AId}{hs:List UInt8}(hg:G i=some (.own (.agg (hs.map u8v)))):lO G 1 i [] 0 0=some (hs.map u8v):=by
 simp[lO,nI,hg,mQ,sub,kd]
theorem pk {i:AId}:dV T ar (.ptr i [] 0) none none none=some (.slice i [] 0 0 32 32):=by
 have e1:T ar=some dQ:=bZ;have e2:dQ.desc=.array 32 cm:=rfl;simp[dV,e1,e2,cW,j8,lH]
theorem bM {i:AId}{hs:List UInt8}(hl:hs.length=32) (hg:G i=some (.own (.agg (hs.map u8v)))):ag T G ar (.ptr i [] 0)=some (.agg (hs.map u8v)):=by
 have h1:szs (hs.map u8v)=32:=by rw[gX (n:=1) (kd hs)];simp[hl]
 simp[ag,nI,hg,mQ,sub,bZ,dQ,dD,sz,h1,ah.isAgg,kZ.isAgg]
theorem gA {i:AId}{hs hs':List UInt8}(hl:hs.length=32) (hl':hs'.length=32) (hg:G i=some (.own (.agg (hs.map u8v)))):aF T G ar (.ptr i [] 0) (.agg (hs'.map u8v))=some (G.upd i (.own (.agg (hs'.map u8v)))):=by
 have h1:szs (hs.map u8v)=32:=by rw[gX (n:=1) (kd hs)];simp[hl]
 have h2:szs (hs'.map u8v)=32:=by rw[gX (n:=1) (kd hs')];simp[hl']
 simp[aF,hg,sub,bZ,dQ,dD,sz,h1,h2,ah.isAgg,kZ.isAgg,okv,kM,putAt]
theorem nQ {i:AId}{j:Nat}(h:j < 32):aO T ar (.ptr i [] 0) (.int .i64 j)=some (.ptr i [j] (j * 1)):=by
 have e1:T ar=some dQ:=bZ;have e2:dQ.desc=.array 32 cm:=rfl;simp only[aO,e1,e2,cW];rw[if_pos ⟨by omega,by omega⟩];simp[gi]
theorem u6 {i:AId}{hs:List UInt8}{j:Nat}(hj:j < hs.length) {b:UInt8}(hg:G i=some (.own (.agg (hs.map u8v)))):aF T G cm (.ptr i [j] (j * 1)) (u8v b)=some (G.upd i (.own (.agg ((hs.set j b).map u8v)))):=by
 rw[mG (c:=u8v b) (u:=u8v hs[j]) hg (by rw[gX (n:=1) (j0 (kd hs) j)];simp;omega) (by simp[hj]) cW rfl rfl rfl,<- List.map_set]
theorem pQ {i:AId}{hs:List UInt8}{j:Nat}(hj:j < hs.length) (hg:G i=some (.own (.agg (hs.map u8v)))):ag T G cm (.ptr i [j] (j * 1))=some (u8v hs[j]):=
 dI hg rfl (by rw[gX (n:=1) (j0 (kd hs) j)];simp;omega) (c:=u8v hs[j]) (by simp[hj]) cW rfl
theorem km {T:Tbl}{s d e:TypeId}{si di ie:TI}{v:ah}{l:List UInt8}(hs:T s=some si) (hsd:si.desc=.slice e) (he:T e=some ie) (hed:ie.desc=.int .u8) (hd:T d=some di) (hdd:di.desc=.string)
  (h:ff 1 G v (l.map u8v)):gv T G s d v=some (.str l):=by
 rcases h with ⟨id,p,st,off,len,cap,rfl,h⟩ | ⟨rfl,hl⟩
 ·simp[gv,hs,hd,hdd,hsd,he,hed,h,vx]
 ·have:l=[]:=by simpa using hl
  subst this;simp[gv,hs,hd,hdd,hsd,he,hed]
theorem qR {i:AId}{hs:List UInt8}{n:Nat}(hg:G i=some (.own (.agg (hs.map u8v)))) (hn:hs.length=n):ff 1 G (.slice i [] 0 0 n n) (hs.map u8v):=by
 have:=qf (n:=1) (cap:=n) (len:=n) hg rfl (kd hs) (by simp[hn])
 rwa [List.take_of_length_le (by simp[hn])]at this
theorem FR {i:AId}{hs s:List UInt8}{n:Nat}{x:ah}{K:ah->ak->Prop}(hse:gq G 1 x=some (s.map u8v)) (hg:G i=some (.own (.agg (hs.map u8v)))) (hs32:hs.length=n) (hl:s.length≤n)
  (hK:∀ G',G' i=some (.own (.agg ((s++hs.drop s.length).map u8v)))->Ch [i] G [i] G'->K (.int .i64 s.length) G'):wI T G aR (.slice i [] 0 0 n n) x K:=by
 have e1:T aR=some fJ:=eC;have e2:fJ.desc=.slice cm:=rfl;unfold wI;simp only[e1,e2,cW];rw[show gi.size=1 from rfl,hse];simp only;rw[List.take_of_length_le (by simpa using hl),List.length_map,Nat.min_eq_left hl];unfold lay;cases s with
 | nil=>
  simp only[List.map_nil];exact hK G (by simpa using hg) (Ch.refl _ _)
 | cons b s=>
  simp only[List.map_cons];rw[show gi.size=1 from rfl,JV hg];simp only;refine⟨by simp at hl ⊢;omega,by simpa using kM (b :: s),by simpa using kd (b :: s),?_⟩;have hp:∀ cs',qS G i [] 1 0 0 cs'=some (G.upd i (.own (.agg cs'))):=fun cs'=>by simp[qS,hg,sub,putAt]
  rw[hp];refine hK _ ?_ (sZ hg (by simp));rw[ak.dR];simp
end
end Go.Esc.M
namespace Go.Esc
open Go Go.RowKit
theorem ae {o:Option ah}{v:ah}{K:ah->Prop}(h:o=some v) (k:K v):wv o K:=by rw[h];exact k
theorem fg {o:Option ak}{v:ak}{K:ak->Prop}(h:o=some v) (k:K v):wg o K:=by rw[h];exact k
section
variable {T:Tbl}{t:TypeId}{ti:TI}{G:ak}{i:AId}{c z:ah}
theorem cj (ht:T t=some ti) (hg:G i=some (.own c)) (hf:dD ti c=true):ag T G t (.ptr i [] 0)=some c:=by
 simp[ag,nI,hg,mQ,sub,ht,hf]
theorem ig (ht:T t=some ti) (hg:G i=some (.own z)) (hf:dD ti c=true) (hs:sz z=sz c) (hok:okv c=true):aF T G t (.ptr i [] 0) c=some (G.upd i (.own c)):=by
 simp[aF,hg,sub,ht,hf,hs,hok,putAt]
theorem jL {F0:List AId}{G0:ak}{ps:List LP}{K:AId->ak->Prop}(hs:Sp F0 G0 ps G) (ht:T t=some ti) (hf:dD ti c=true) (hz:sz z=sz c) (hok:okv c=true) (hK:∀ i G',Sp F0 G0 (au i c :: ps) G'->K i G') :
  br G (.own z) fun i G2=>wg (aF T G2 t (.ptr i [] 0) c) fun G3=>K i G3:=by
 intro i hfr;have s:=hs.row hfr z;rw[ig ht (au.own (i:=0) s rfl) hf hz hok,jl];refine hK _ _ ?_;refine s.call (i:=0) rfl (au i c) fun F h k=>?_;obtain⟨h,rfl⟩:=h;exact k _ _ ⟨ak.dR _ _ _,rfl⟩ ⟨tq h (by simp),fun j x hj hn=>by rw[ak.nb _ _ (fun e=>hn (by simp[e]))];exact hj,fun j hj=>.inl hj⟩
end
theorem ff.ch' {n:Nat}{G G':ak}{E:List AId}{v:ah}{vs:List ah}(h:ff n G v vs) (hc:Ch [] G E G'):ff n G' v vs:=h.le fun j o hj=>hc.others j o hj (by simp)
theorem nz0 {T:Tbl}{t:TypeId}{k:IntKind}{n:Int}:az T .neq t (.int k n) (.int k n)=some (.bool false):=by rw[cD,dT_ rfl];rfl
theorem ez0 {T:Tbl}{t:TypeId}{k:IntKind}{n:Int}:az T .eql t (.int k n) (.int k n)=some (.bool true):=by rw[bB,dT_ rfl]
section
variable {T:Tbl}{ta te:TypeId}{ia ie:TI}{n:Nat}{G:ak}{i:AId}{cs:List ah}
theorem pT (hta:T ta=some ia) (hda:ia.desc=.array n te) (hte:T te=some ie) {p:List Nat}{o:Nat}{k:IntKind}{m:Int}{j:Nat}(hm:m=(j:Int)) (hj:j < n) :
  aO T ta (.ptr i p o) (.int k m)=some (.ptr i (p++[j]) (o+j * ie.size)):=by
 subst hm;simp only[aO,hta,hda,hte];rw[if_pos ⟨by omega,by omega⟩];simp
theorem rb {s:Nat}(hu:uni s cs=true) {j:Nat}(hj:j≤cs.length):szs (cs.take j)=j * s:=by
 rw[gX (j0 hu j),List.length_take,Nat.min_eq_left hj]
theorem wH (hte:T te=some ie) {s:Nat}{c:ah}{j:Nat}(hg:G i=some (.own (.agg cs))) (hu:uni s cs=true) (hj:cs[j]?=some c) (hf:dD ie c=true):ag T G te (.ptr i [j] (0+j * s))=some c:=by
 have hl:=(List.getElem?_eq_some_iff.1 hj).1;exact dI hg rfl (by rw[rb hu (by omega),Nat.zero_add]) hj hte hf
theorem JW (hte:T te=some ie) {s:Nat}{c u:ah}{j:Nat}(hg:G i=some (.own (.agg cs))) (hu:uni s cs=true) (hj:cs[j]?=some u) (hf:dD ie c=true) (hs:sz u=sz c) (hok:okv c=true) :
  aF T G te (.ptr i [j] (0+j * s)) c=some (G.upd i (.own (.agg (cs.set j c)))):=by
 have hl:=(List.getElem?_eq_some_iff.1 hj).1;exact mG hg (by rw[rb hu (by omega),Nat.zero_add]) hj hte hf hs hok
end
section
variable {T:Tbl}{ts e tx:TypeId}{si ie xi:TI} (ht:T ts=some si) (hd:si.desc=.slice e) (he:T e=some ie) (hz:sz ie.zero=ie.size) (hb:ie.bytes≠0)
variable {F0:List AId}{G0 G:ak}{ps:List LP}{s:ah}{vs:List ah}{i:Nat}{K:ah->ak->Prop}
include ht hd he hz hb in
theorem wm {c:ah}(hs:Sp F0 G0 ps G) (hi:ps[i]?=some (bm ie.size s vs)) (hc:sz c=ie.size) (hok:okv c=true) (hie:ie.size≤16777216) (hl:(vs.length+1) * ie.bytes≤140737488355328)
  (hK:∀ s' G',Sp F0 G0 (ps.set i (bm ie.size s' (vs++[c]))) G'->K s' G'):bu T ts 1 [(0,c)] G fun v G'=>cn T G' ts ts s v K:=by
 obtain⟨F,ho,_⟩:=hs.get hi;refine Di ht hd he hz hb ho hc hok hie hl fun s' G2 ho2 hk=>hK s' G2 ?_;refine hs.call hi (bm ie.size s' (vs++[c])) fun F h k=>?_;obtain⟨_,rfl⟩:=h;exact k _ _ ⟨ho2,rfl⟩ hk.ch
include ht hd he hz hb in
theorem uN {x:ah}{xs:List ah}(htx:T tx=some xi) (hdx:xi.desc=.string\/∃ e',xi.desc=.slice e') (hs:Sp F0 G0 ps G) (hi:ps[i]?=some (bm ie.size s vs)) (hx:gq G ie.size x=some xs) (hu:uni ie.size xs=true) (hok:mz xs=true)
  (hl:(vs.length+xs.length) * ie.bytes≤140737488355328) (hK:∀ s' G',Sp F0 G0 (ps.set i (bm ie.size s' (vs++xs))) G'->K s' G'):cn T G ts tx s x K:=by
 obtain⟨F,ho,_⟩:=hs.get hi;refine r7 ht hd he hz hb htx hdx ho hx hu hok hl fun s' G2 ho2 hk=>hK s' G2 ?_;refine hs.call hi (bm ie.size s' (vs++xs)) fun F h k=>?_;obtain⟨_,rfl⟩:=h;exact k _ _ ⟨ho2,rfl⟩ hk.ch
include ht hd he hz in
theorem Df {c:ah}(hs:Sp F0 G0 ps G) (hc:sz c=ie.size) (hie:ie.size≤16777216) (hK:∀ s' G',Sp F0 G0 (bm ie.size s' [c] :: ps) G'->K s' G'):bu T ts 1 [(0,c)] G K:=by
 unfold bu;have hf:nx (fun k=>some (k * ie.size,ie.size)) (List.replicate 1 ie.zero) [(0,c)]=some [c]:=by simp[nx,hz,hc,szs]
 simp only[ht,hd,he,hf];refine⟨by omega,fun id hfr=>hK _ _ (hs.new (p:=bm ie.size _ [c]) ⟨.inr ⟨id,1,1,[c],rfl,ak.dR _ _ _,rfl,Nat.le_refl _,by simp[Esc.uni,hc],rfl⟩,rfl⟩ ?_)⟩;simpa[rowOf] using Ch.new hfr
end
theorem Sp.nz {F0:List AId}{G0 G:ak}{ps:List LP}(hs:Sp F0 G0 ps G) (n:Nat):Sp F0 G0 (bm n .nilSlice [] :: ps) G:=hs.new (p:=bm n .nilSlice []) ⟨.inl ⟨rfl,rfl⟩,rfl⟩ (Ch.refl _ _)
theorem bm.own {F0:List AId}{G0 G:ak}{ps:List LP}{i n:Nat}{v:ah}{vs:List ah}(h:Sp F0 G0 ps G) (hi:ps[i]?=some (bm n v vs)):Own n G v vs:=by
 obtain⟨F,h,_⟩:=h.get hi;exact h
def D4 (pl:Nat->Option (Nat×Nat)) (zs:List ah):Prop:=∀ k z,zs[k]?=some z->pl k=some (szs (zs.take k),sz z)
theorem Ki {zs:List ah}{k:Nat}{v z:ah}(hz:zs[k]?=some z) (hs:sz v=sz z):szs (zs.set k v)=szs zs:=by
 obtain⟨e1,e2⟩:=rf zs k z v hz;rw[e2]
 conv=>rhs;rw[e1]
 rw[u5,u5,po,po,hs]
theorem D4.set {pl:Nat->Option (Nat×Nat)}{zs:List ah}(h:D4 pl zs) {k:Nat}{v z:ah}(hz:zs[k]?=some z) (hs:sz v=sz z):D4 pl (zs.set k v):=by
 intro j y hy;have hk:=(List.getElem?_eq_some_iff.1 hz).1;have e:szs ((zs.set k v).take j)=szs (zs.take j):=by
  rw[List.take_set];by_cases hkj:k < j
  ·exact Ki (by rw[List.getElem?_take_of_lt hkj];exact hz) hs
  ·rw[List.set_eq_of_length_le (by rw[List.length_take];omega)]
 rw[e];by_cases hjk:j=k
 ·subst hjk;rw[List.getElem?_set_self hk]at hy;injection hy with hy;subst hy;rw[h _ z hz,hs]
 ·rw[List.getElem?_set_ne (by omega)]at hy;exact h _ _ hy
def p7 (zs:List ah) (parts:List (Nat×ah)):List ah:=parts.foldl (fun z p=>z.set p.1 p.2) zs
theorem wu {pl:Nat->Option (Nat×Nat)}:∀ {parts:List (Nat×ah)}{zs:List ah},D4 pl zs->(∀ p∈parts,zs[p.1]?.map sz=some (sz p.2))->nx pl zs parts=some (p7 zs parts)
 | [],zs,_,_=>rfl
 | (k,v) :: parts,zs,h,hp=>by
  have h1:=hp (k,v) (by simp);cases hz:zs[k]? with
  | none=>rw[hz]at h1;cases h1
  | some z=>
   rw[hz]at h1;simp only[Option.map_some,Option.some.injEq]at h1;simp only[nx,h k z hz,hz,h1,beq_self_eq_true,Bool.and_self,if_true];refine wu (h.set hz h1.symm) fun p hpm=>?_;rw[<- hp p (by simp[hpm])];by_cases hpk:p.1=k
   ·rw[hpk,List.getElem?_set_self (List.getElem?_eq_some_iff.1 hz).1,hz];simp[h1]
   ·rw[List.getElem?_set_ne (by omega)]
theorem pf {pl:Nat->Option (Nat×Nat)}{zs:List ah}(h:(List.range zs.length).all (fun k=>pl k == zs[k]?.map fun z=>(szs (zs.take k),sz z))=true):D4 pl zs:=by
 intro k z hz;have hk:=(List.getElem?_eq_some_iff.1 hz).1;have:=List.all_eq_true.1 h k (List.mem_range.2 hk);rw[hz]at this;simpa using this
theorem kO {T:Tbl}{t:TypeId}{i:TI}{fs:List (TypeId×Nat)}{zs:List ah}{parts:List (Nat×ah)}(ht:T t=some i) (hd:i.desc=.struct fs) (hz:i.zero=.agg zs) (ha:fs.all (fun g=>(T g.1).isSome)=true) (hp:D4 (places T fs) zs)
  (hs:∀ p∈parts,zs[p.1]?.map sz=some (sz p.2)):bj T t parts=some (.agg (p7 zs parts)):=by
 unfold bj;simp only[ht,hd,hz,ha,if_true,wu hp hs]
theorem EF {T:Tbl}{t e:TypeId}{i ie:TI}{n:Nat}{zs:List ah}{parts:List (Nat×ah)}(ht:T t=some i) (hd:i.desc=.array n e) (he:T e=some ie) (hz:i.zero=.agg zs) (hu:uni ie.size zs=true)
  (hs:∀ p∈parts,zs[p.1]?.map sz=some (sz p.2)):bj T t parts=some (.agg (p7 zs parts)):=by
 unfold bj;have hp:D4 (fun k=>some (k * ie.size,ie.size)) zs:=fun k z hk=>by
  have hl:=(List.getElem?_eq_some_iff.1 hk).1;rw[rb hu (by omega)];simp only[uni,List.all_eq_true,beq_iff_eq]at hu;rw[hu z (List.mem_of_getElem? hk)]
 simp only[ht,hd,he,hz,wu hp hs]
theorem Dg {T:Tbl}{F0:List AId}{G0 G:ak}{ps:List LP}{ts e:TypeId}{si ie:TI}{n:Nat}{parts:List (Nat×ah)}{l:List ah}{K:ah->ak->Prop}(ht:T ts=some si) (hd:si.desc=.slice e) (he:T e=some ie) (hz:sz ie.zero=ie.size)
  (hl:p7 (List.replicate n ie.zero) parts=l) (hu:uni ie.size l=true) (hn:l.length=n) (hs:∀ p∈parts,p.1 < n/\sz p.2=ie.size) (hb:n * ie.size≤16777216) (sp:Sp F0 G0 ps G) (hK:∀ v G',Sp F0 G0 (bm ie.size v l :: ps) G'->K v G'):bu T ts n parts G K:=by
 have hu0:uni ie.size (List.replicate n ie.zero)=true:=nq hz;have hp:D4 (fun k=>some (k * ie.size,ie.size)) (List.replicate n ie.zero):=fun k z hk=>by
  have hl:=(List.getElem?_eq_some_iff.1 hk).1;rw[rb hu0 (by omega)];simp only[uni,List.all_eq_true,beq_iff_eq]at hu0;rw[hu0 z (List.mem_of_getElem? hk)]
 have hf:=wu (parts:=parts) hp fun p hpm=>by
  obtain⟨h1,h2⟩:=hs p hpm;rw[List.getElem?_replicate_of_lt h1,Option.map_some,hz,h2]
 unfold bu;simp only[ht,hd,he,hf];rw[hl];refine⟨hb,fun id hfr=>hK _ _ (sp.new (p:=bm ie.size _ l) ⟨.inr ⟨id,n,n,l,rfl,ak.dR _ _ _,hn,Nat.le_refl _,hu,by rw[<- hn,List.take_length]⟩,rfl⟩ ?_)⟩;simpa[rowOf] using Ch.new hfr
theorem Mm {T:Tbl}{F0:List AId}{G0 G:ak}{ps:List LP}{ts e:TypeId}{si ie:TI}(ht:T ts=some si) (hd:si.desc=.slice e) (he:T e=some ie) (hz:sz ie.zero=ie.size) {k k':IntKind}{n:Nat}{x y:Int}(hx:x=(n:Int)) (hy:y=(n:Int))
  (hb:ie.bytes * n≤281474976710656) (hn:n≤9223372036854775807) (hs:Sp F0 G0 ps G) {K:ah->ak->Prop} (hK:∀ v G',Sp F0 G0 (bm ie.size v (List.replicate n ie.zero) :: ps) G'->K v G'):lg T ts (.int k x) (.int k' y) G K:=by
 subst hx hy;unfold lg;simp only[ht,hd,he];refine⟨by omega,by omega,?_,by omega,fun id hf=>?_⟩
 ·have:((ie.bytes * n:Nat):Int)≤281474976710656:=by omega
  rwa [Int.natCast_mul]at this
 ·simp only[Int.toNat_natCast];refine hK _ _ (hs.new (p:=bm ie.size _ _) ⟨.inr ⟨id,n,n,List.replicate n ie.zero,rfl,ak.dR _ _ _,by simp,Nat.le_refl _,nq hz,?_⟩,rfl⟩ ?_)
  ·rw[List.take_of_length_le (by simp)]
  ·simpa[rowOf] using Ch.new hf
end Go.Esc
namespace Go.Esc
open Go Go.RowKit
theorem Own.nj {n:Nat}{G:ak}{v:ah}{vs:List ah}(h:Own n G v vs):hJ n G v vs:=by
 have hs:=h.is.elems;rcases h with ⟨rfl,rfl⟩ | ⟨id,len,cap,cs,rfl,hg,hc,hl,hu,hv⟩
 ·exact .inr ⟨rfl,rfl⟩
 ·exact .inl ⟨_,_,_,_,_,_,rfl,by omega,hs⟩
theorem hJ.nil {n:Nat}{G:ak}:hJ n G .nilSlice []:=.inr ⟨rfl,rfl⟩
def uS (w v:ah) (m len:Nat):Prop:=(v=.nilSlice/\w=.nilSlice/\m=0/\len=0)\/∃ id cap,v=.slice id [] 0 0 len cap/\w=.slice id [] 0 0 m cap/\m≤len/\len≤cap
theorem uS.own {w v:ah}{m len:Nat}(h:uS w v m len) {n:Nat}{G:ak}{vs:List ah}(hl:vs.length=len) (ho:Own n G v vs):Own n G w (vs.take m):=by
 rcases h with ⟨rfl,rfl,rfl,rfl⟩ | ⟨id,cap,rfl,rfl,hm,hc⟩
 ·have:vs=[]:=List.length_eq_zero_iff.1 hl;subst this;exact .inl ⟨rfl,rfl⟩
 ·rcases ho with ⟨h,_⟩ | ⟨id',len',cap',cs',h1,hg',hc',hl',hu',he'⟩
  ·cases h
  ·injection h1 with i1 i2 i3 i4 i5 i6;subst i1 i5 i6;refine .inr ⟨id,m,cap,cs',rfl,hg',hc',by omega,hu',?_⟩;rw[he',List.take_take,Nat.min_eq_left hm]
theorem uS.leaf {w v:ah}{m len:Nat}(h:uS w v m len):sz w=1/\w.isAgg=false/\okv w=true:=by
 rcases h with ⟨_,rfl,_,_⟩ | ⟨id,cap,_,rfl,_⟩<;>exact⟨rfl,rfl,rfl⟩
theorem uS.cap {w v:ah}{m len:Nat}(h:uS w v m len) {n:Nat}{G:ak}{vs:List ah}(hl:vs.length=len) (ho:Own n G v vs):hJ n G w (vs.take m):=by
 rcases h with ⟨rfl,rfl,rfl,rfl⟩ | ⟨id,cap,rfl,rfl,hm,hc⟩
 ·exact .inr ⟨rfl,by simp⟩
 ·refine .inl ⟨id,[],0,0,m,cap,rfl,by omega,?_⟩;have:=(uS.own (.inr ⟨id,cap,rfl,rfl,hm,hc⟩:uS (.slice id [] 0 0 m cap) (.slice id [] 0 0 len cap) m len) hl ho).is.elems;exact this
section
variable {T:Tbl}{t e:TypeId}{i ie:TI} (ht:T t=some i) (hd:i.desc=.slice e) (he:T e=some ie)
include ht hd he in
theorem uS.mk {n:Nat}{G:ak}{v:ah}{vs:List ah}(ho:Own n G v vs) {k:IntKind}{m:Nat}{x:Int}(hx:x=(m:Int)) (hm:m≤vs.length):∃ w,dV T t v none (some (.int k x)) none=some w/\uS w v m vs.length:=by
 subst hx;rcases ho with ⟨rfl,rfl⟩ | ⟨id,len,cap,cs,rfl,hg,hc,hl,hu,hv⟩
 ·simp at hm;subst hm;exact⟨.nilSlice,by simp[dV,ht,hd,he,j8,lH],.inl ⟨rfl,rfl,rfl,rfl⟩⟩
 ·have hvl:vs.length=len:=by rw[hv,List.length_take];omega
  refine⟨.slice id [] 0 0 m cap,?_,.inr ⟨id,cap,by rw[hvl],rfl,hm,by omega⟩⟩;simp only[dV,ht,hd,he];rw[pH (by omega)];simp
include ht hd he in
theorem uS.back {w v:ah}{m len:Nat}(h:uS w v m len) {k:IntKind}{x:Int}(hx:x=(len:Int)):dV T t w none (some (.int k x)) none=some v:=by
 subst hx;rcases h with ⟨rfl,rfl,rfl,rfl⟩ | ⟨id,cap,rfl,rfl,hm,hc⟩
 ·simp[dV,ht,hd,he,j8,lH]
 ·simp only[dV,ht,hd,he];rw[pH (by omega)];simp
include ht hd he in
theorem hJ.drop {G:ak}{v:ah}{vs:List ah}(h:hJ ie.size G v vs) {k:IntKind}{m:Nat}(hm:m≤vs.length):∃ v',dV T t v (some (.int k m)) none none=some v'/\ff ie.size G v' (vs.drop m):=by
 rcases h with ⟨id,p,st,off,len,cap,rfl,hlc,h⟩ | ⟨rfl,rfl⟩
 ·obtain⟨cs,h1,h0,h2,h3,rfl,harr⟩:=mY h;have hl:((cs.drop st).take len).length=len:=by rw[List.length_take,List.length_drop];omega
  rw[hl]at hm;refine⟨.slice id p (if cap=m then st else st+m) (if cap=m then off else off+m * ie.size) (len-m) (cap-m),?_,?_⟩
  ·simp only[dV,ht,hd,he];rw[qB hm hlc]
  ·by_cases hcm:cap=m
   ·have hlm:len=m:=(by omega);refine .inl ⟨id,p,_,_,_,_,rfl,?_⟩;rw[if_pos hcm,if_pos hcm];simp only[gq,harr];rw[if_pos (by omega),hlm,Nat.sub_self,List.take_zero,List.drop_eq_nil_iff.2 (by simp;omega)]
   ·refine .inl ⟨id,p,_,_,_,_,rfl,?_⟩;rw[if_neg hcm,if_neg hcm];have harr':lO G ie.size id p (st+m) (off+m * ie.size)=some cs:=by
     unfold lO at harr ⊢;rw[show off+m * ie.size-(st+m) * ie.size=off-st * ie.size by rw[Nat.add_mul];omega];rw[h1]at harr ⊢;simp only at harr ⊢;rw[if_pos];simp only[Bool.and_eq_true,decide_eq_true_eq];exact⟨by rw[Nat.add_mul];omega,h2⟩
    simp only[gq,harr'];rw[if_pos (by omega),List.drop_take,List.drop_drop]
 ·simp at hm;subst hm;exact⟨.nilSlice,by simp[dV,ht,hd,he,j8,lH],.inr ⟨rfl,by simp⟩⟩
include ht hd he in
theorem Sp.aeT {F0:List AId}{G0 G:ak}{ps:List LP}{j q:Nat}{v:ah}{vs:List ah}{c:ah}{k:IntKind}{x:Int}(hs:Sp F0 G0 ps G) (hi:ps[j]?=some (bm ie.size v vs)) (hx:x=(q:Int)) (hq:q < vs.length) (hc:sz c=ie.size) (ha:c.isAgg=ie.desc.isAgg) (hok:okv c=true) :
  ∃ a,aO T t v (.int k x)=some a/\∀ K:ak->Prop,(∀ G',Sp F0 G0 (ps.set j (bm ie.size v (vs.set q c))) G'->K G')->wg (aF T G e a c) K:=by
 subst hx;have ho:=bm.own hs hi;rcases ho with ⟨_,h⟩ | ⟨id,len,cap,cs,rfl,hg,hcs,hl,hun,hv⟩
 ·rw[h]at hq;simp at hq
 ·have hlen:vs.length=len:=by rw[hv,List.length_take];omega
  obtain⟨a,h1,h2⟩:=GI ht hd he (cap:=cap) (k:=k) (j:=q) hg hun (by omega) (by omega) hc ha hok;subst hlen;refine⟨a,h1,fun K hK=>fg h2 (hK _ ?_)⟩;refine hs.call hi (bm ie.size (.slice id [] 0 0 vs.length cap) (vs.set q c)) fun F h k=>?_;obtain⟨_,rfl⟩:=h;refine k _ _ ⟨.inr ⟨id,vs.length,cap,cs.set q c,rfl,ak.dR _ _ _,by simpa using hcs,hl,CG hun hc,?_⟩,rfl⟩ (by simpa[rowOf] using Go.Esc.M.sZ hg (by simp));have e:(cs.set q c).take vs.length=(cs.take vs.length).set q c:=List.take_set;rw[e,<- hv]
end
end Go.Esc
namespace Go.Esc
open Go Go.RowKit
def nS (a b:Nat):Nat:=(a+b) % 4294967296
def qx (a b:Nat):Nat:=(a ^^^ b) % 4294967296
def yH (a b:Nat):Nat:=(a &&& b) % 4294967296
def xx (a b:Nat):Nat:=(a ||| b) % 4294967296
def Ee (a:Nat):Nat:=4294967295-a % 4294967296
def pr (k a:Nat):Nat:=(2 ^ k * a) % 4294967296
def zM (k a:Nat):Nat:=a / 2 ^ k
def yT (k a:Nat):Nat:=xx (zM k a) (pr (32-k) a)
theorem HK (a b:Nat):xx a b=xx b a:=by unfold xx;rw[Nat.or_comm]
section
variable {T:Tbl}{t:TypeId}{a b:Nat}
theorem uP (w a:Nat):(BitVec.ofInt w (a:Int)).toNat=a % 2 ^ w:=by rw[BitVec.ofInt_natCast,BitVec.toNat_ofNat]
theorem nJ:az T .add t (.int .u32 (a:Int)) (.int .u32 (b:Int))=some (.int .u32 ((nS a b:Nat):Int)):=by
 rw[bg,tL];congr 2
theorem u32_xor:az T .xor t (.int .u32 (a:Int)) (.int .u32 (b:Int))=some (.int .u32 ((qx a b:Nat):Int)):=by
 have hb:IntKind.u32.bits=32:=rfl;rw[DF,tL,BitVec.toNat_xor,uP,uP,hb,<- Nat.xor_mod_two_pow];congr 2;have:(a ^^^ b) % 2 ^ 32=qx a b:=rfl;rw[this];have:qx a b < 4294967296:=Nat.mod_lt _ (by decide);omega
theorem u32_and:az T .and t (.int .u32 (a:Int)) (.int .u32 (b:Int))=some (.int .u32 ((yH a b:Nat):Int)):=by
 have hb:IntKind.u32.bits=32:=rfl;rw[sY,tL,BitVec.toNat_and,uP,uP,hb,<- Nat.and_mod_two_pow];congr 2;have:(a &&& b) % 2 ^ 32=yH a b:=rfl;rw[this];have:yH a b < 4294967296:=Nat.mod_lt _ (by decide);omega
theorem u32_or:az T .or t (.int .u32 (a:Int)) (.int .u32 (b:Int))=some (.int .u32 ((xx a b:Nat):Int)):=by
 have hb:IntKind.u32.bits=32:=rfl;rw[Gp,tL,BitVec.toNat_or,uP,uP,hb,<- Nat.or_mod_two_pow];congr 2;have:(a ||| b) % 2 ^ 32=xx a b:=rfl;rw[this];have:xx a b < 4294967296:=Nat.mod_lt _ (by decide);omega
theorem tQ:vun .xor (.int .u32 (a:Int))=some (.int .u32 ((Ee a:Nat):Int)):=by
 have h1:(BitVec.ofInt 32 (4294967295:Int) ^^^ BitVec.ofInt 32 (a:Int)).toNat=Ee a:=by
  have h2:BitVec.ofInt 32 (4294967295:Int)=BitVec.allOnes 32:=by decide
  rw[h2,BitVec.allOnes_xor,BitVec.toNat_not,uP];rfl
 show some (ah.int .u32 (IntKind.u32.wrap ((BitVec.ofInt 32 (4294967295:Int) ^^^ BitVec.ofInt 32 (a:Int)).toNat:Nat)))=_;rw[h1,tL];have:Ee a < 4294967296:=by unfold Ee;omega
 congr 2;omega
theorem rQ {k:Nat}{n:Int}{kk:IntKind}(hn:n=(k:Int)) (hk:k≤31):az T .shr t (.int .u32 (a:Int)) (.int kk n)=some (.int .u32 ((zM k a:Nat):Int)):=by
 subst hn;rw[nB _ _ _ _ _ _ (by omega)];have h1:min ((k:Int)).toNat IntKind.u32.bits=k:=by
  have:IntKind.u32.bits=32:=rfl;omega
 have h2:((2:Int) ^ k)=((2 ^ k:Nat):Int):=by simp
 rw[h1,h2,Int.fdiv_eq_ediv_of_nonneg _ (Int.natCast_nonneg _)];congr 2
theorem tP {k:Nat}{n:Int}{kk:IntKind}(hn:n=(k:Int)) (hk:k≤31):az T .shl t (.int .u32 (a:Int)) (.int kk n)=some (.int .u32 ((pr k a:Nat):Int)):=by
 subst hn;rw[zv _ _ _ _ _ _ (by omega),tL];have h1:min ((k:Int)).toNat IntKind.u32.bits=k:=by
  have:IntKind.u32.bits=32:=rfl;omega
 have h2:((2:Int) ^ k)=((2 ^ k:Nat):Int):=by simp
 rw[h1,h2];congr 2;unfold pr;rw[Int.mul_comm];simp
end
def eE (ws:List Nat):List ah:=ws.map fun (n:Nat)=>.int .u32 (n:Int)
theorem lX (ws:List Nat):uni 1 (eE ws)=true:=by simp[uni,eE,sz]
theorem rk:∀ l:List Nat,mz (eE l)=true
 | []=>rfl
 | b :: l=>by have:=rk l;simp only[eE]at this;simp[eE,mz,okv,this]
theorem iF (l:List Nat):(eE l).length=l.length:=by simp[eE]
section
variable {T:Tbl}{ta te:TypeId}{ia ie:TI}{n:Nat}{G:ak}{i:AId}{cs:List ah}
theorem qt (hta:T ta=some ia) (hda:ia.desc=.array n te) (hte:T te=some ie) (hz:ie.size=1) {k:IntKind}{m:Int}{j:Nat}(hm:m=(j:Int)) (hj:j < n):aO T ta (.ptr i [] 0) (.int k m)=some (.ptr i [j] j):=by
 subst hm;simp only[aO,hta,hda,hte];rw[if_pos ⟨by omega,by omega⟩];simp[hz]
theorem wG (hte:T te=some ie) {c:ah}{j:Nat}(hg:G i=some (.own (.agg cs))) (hu:uni 1 cs=true) (hj:cs[j]?=some c) (hf:dD ie c=true):ag T G te (.ptr i [j] j)=some c:=by
 have hl:=(List.getElem?_eq_some_iff.1 hj).1;exact dI hg rfl (by rw[gX (n:=1) (j0 hu j)];simp;omega) hj hte hf
theorem uq (hte:T te=some ie) {c u:ah}{j:Nat}(hg:G i=some (.own (.agg cs))) (hu:uni 1 cs=true) (hj:cs[j]?=some u) (hf:dD ie c=true) (hs:sz u=sz c) (hok:okv c=true) :
  aF T G te (.ptr i [j] j) c=some (G.upd i (.own (.agg (cs.set j c)))):=by
 have hl:=(List.getElem?_eq_some_iff.1 hj).1;exact mG hg (by rw[gX (n:=1) (j0 hu j)];simp;omega) hj hte hf hs hok
theorem rD (hta:T ta=some ia) (hag:ia.desc.isAgg=true) (hn:ia.size=cs.length) (hg:G i=some (.own (.agg cs))) (hu:uni 1 cs=true):ag T G ta (.ptr i [] 0)=some (.agg cs):=by
 have h1:szs cs=cs.length:=by rw[gX hu,Nat.mul_one]
 simp[ag,nI,hg,mQ,sub,hta,dD,sz,h1,hn,ah.isAgg,hag]
theorem ze {cs':List ah}(hta:T ta=some ia) (hag:ia.desc.isAgg=true) (hn:ia.size=cs'.length) (hl:cs.length=cs'.length) (hg:G i=some (.own (.agg cs))) (hu:uni 1 cs=true) (hu':uni 1 cs'=true) (hok:mz cs'=true) :
  aF T G ta (.ptr i [] 0) (.agg cs')=some (G.upd i (.own (.agg cs'))):=by
 have h1:szs cs=cs.length:=by rw[gX hu,Nat.mul_one]
 have h2:szs cs'=cs'.length:=by rw[gX hu',Nat.mul_one]
 simp[aF,hg,sub,hta,dD,sz,h1,h2,hn,hl,ah.isAgg,hag,okv,hok,putAt]
end
def MD (x:Nat):Nat:=qx (qx (yT 7 x) (yT 18 x)) (zM 3 x)
def MC (y:Nat):Nat:=qx (qx (yT 17 y) (yT 19 y)) (zM 10 y)
def BV (ws:List Nat):Nat:=
 nS (nS (nS (ws.getD (ws.length-16) 0) (MD (ws.getD (ws.length-15) 0))) (ws.getD (ws.length-7) 0)) (MC (ws.getD (ws.length-2) 0))
def sched:Nat->List Nat->List Nat
 | 0,ws=>ws
 | n+1,ws=>sched n (ws++[BV ws])
def oM:Nat->List UInt8->Nat
 | v,[]=>v
 | v,b :: l=>oM (v * 256+b.toNat) l
def word (b:List UInt8) (i:Nat):Nat:=oM 0 ((b.drop (4 * i)).take 4)
def words (b:List UInt8) (n:Nat):List Nat:=(List.range n).map (word b)
def oj:List Nat:=[1116352408,1899447441,3049323471,3921009573,961987163,1508970993,2453635748,2870763221,3624381080,310598401,607225278,1426881987,1925078388,2162078206,2614888103,3248222580,3835390401,4022224774,264347078,604807628,770255983,1249150122,1555081692,1996064986,2554220882,2821834349,2952996808,3210313671,3336571891,3584528711,113926993,338241895,666307205,773529912,1294757372,1396182291,1695183700,1986661051,2177026350,2456956037,2730485921,2820302411,3259730800,3345764771,3516065817,3600352804,4094571909,275423344,430227734,506948616,659060556,883997877,958139571,1322822218,1537002063,1747873779,1955562222,2024104815,2227730452,2361852424,2428436474,2756734187,3204031479,3329325298]
def Ba:List Nat:=[1779033703,3144134277,1013904242,2773480762,1359893119,2600822924,528734635,1541459225]
def Mi (k w e f g h:Nat):Nat:=nS (nS (nS (nS h (qx (qx (yT 6 e) (yT 11 e)) (yT 25 e))) (qx (yH e f) (yH (Ee e) g))) k) w
def ME (a b c:Nat):Nat:=nS (qx (qx (yT 2 a) (yT 13 a)) (yT 22 a)) (qx (qx (yH a b) (yH a c)) (yH b c))
def rnd (k w:Nat):List Nat->List Nat
 | [a,b,c,d,e,f,g,h]=>[nS (Mi k w e f g h) (ME a b c),a,b,c,nS d (Mi k w e f g h),e,f,g]
 | l=>l
def yU:List Nat->List Nat->List Nat->List Nat
 | k :: ks,w :: ws,r=>yU ks ws (rnd k w r)
 | _,_,r=>r
def compress (h:List Nat) (b:List UInt8):List Nat:=List.zipWith nS (yU oj (sched 48 (words b 16)) h) h
def chain:Nat->List Nat->List UInt8->List Nat
 | 0,h,_=>h
 | n+1,h,m=>chain n (compress h (m.take 64)) (m.drop 64)
def bytesBE:Nat->Nat->List UInt8
 | 0,_=>[]
 | k+1,v=>UInt8.ofNat (v / 2 ^ (8 * k)) :: bytesBE k v
def pad (s:List UInt8):List UInt8:=s++128 :: (List.replicate ((119-s.length % 64) % 64) 0++bytesBE 8 (8 * s.length))
def qk (h:List Nat):List UInt8:=(List.range 32).map fun i=>UInt8.ofNat (zM (24-8 * (i % 4)) (h.getD (i / 4) 0))
def sha (s:List UInt8):List UInt8:=qk (chain ((pad s).length / 64) Ba (pad s))
end Go.Esc
namespace Go.Esc
theorem getD_some {l:List Nat}{j:Nat}(h:j < l.length):l[j]?=some (l.getD j 0):=by
 rw[List.getD_eq_getElem?_getD,List.getElem?_eq_getElem h];rfl
theorem Af:∀ (l:List UInt8) (v:Nat) (b:UInt8),oM v (l++[b])=oM v l * 256+b.toNat
 | [],v,b=>rfl
 | c :: l,v,b=>by rw[List.cons_append,oM,oM,Af l]
theorem Ed:∀ (l:List UInt8) (v:Nat),oM v l < (v+1) * 256 ^ l.length
 | [],v=>by simp[oM]
 | b :: l,v=>by
  have h:=Ed l (v * 256+b.toNat);have hb:b.toNat < 256:=b.toNat_lt;rw[oM,List.length_cons,Nat.pow_succ];refine Nat.lt_of_lt_of_le h ?_;rw[Nat.mul_comm (256 ^ l.length) 256,<- Nat.mul_assoc];exact Nat.mul_le_mul_right _ (by omega)
theorem CU (k n b:Nat) (hb:b < 2 ^ k) (hn:2 ^ k * n+b < 4294967296):xx (pr k n) b=2 ^ k * n+b:=by
 unfold xx pr;rw[Nat.mod_eq_of_lt (a:=2 ^ k * n) (by omega),<- Nat.two_pow_add_eq_or_of_lt hb,Nat.mod_eq_of_lt hn]
theorem sc:∀ (n:Nat) (ws:List Nat),(sched n ws).length=ws.length+n
 | 0,ws=>rfl
 | n+1,ws=>by rw[sched,sc n];simp;omega
theorem gY (b:List UInt8) (n:Nat):(words b n).length=n:=by simp[words]
theorem zp (b:List UInt8) (n:Nat):words b (n+1)=words b n++[word b n]:=by simp[words,List.range_succ]
theorem IZ {α:Type}{ws:List α}{z x:α}{n:Nat}(hn:ws.length < n):(ws++List.replicate (n-ws.length) z).set ws.length x=(ws++[x])++List.replicate (n-(ws++[x]).length) z:=by
 rw[List.set_append_right _ _ (Nat.le_refl _),Nat.sub_self,show n-ws.length=(n-(ws++[x]).length)+1 by simp;omega,List.replicate_succ,List.set_cons_zero,List.append_assoc];rfl
def filled (n:Nat) (ws:List Nat):List ah:=eE ws++List.replicate (n-ws.length) (.int .u32 ((0:Nat):Int))
theorem n7 (n:Nat) (ws:List Nat):uni 1 (filled n ws)=true:=by
 unfold filled;exact mH (lX ws) (nq rfl)
theorem ph {n:Nat}{ws:List Nat}(h:ws.length≤n):(filled n ws).length=n:=by simp[filled,iF];omega
theorem yv {n:Nat}{ws:List Nat}(h:ws.length=n):filled n ws=eE ws:=by simp[filled,h]
theorem AE {n:Nat}{ws:List Nat}{j:Nat}(h:j < ws.length):(filled n ws)[j]?=some (.int .u32 (ws.getD j 0:Nat)):=by
 unfold filled;rw[List.getElem?_append_left (by rw[iF];exact h),eE,List.getElem?_map,getD_some h];rfl
theorem qH {n:Nat}{ws:List Nat}(h:ws.length < n):(filled n ws)[ws.length]?=some (.int .u32 ((0:Nat):Int)):=by
 unfold filled;rw[List.getElem?_append_right (by rw[iF];omega),iF,Nat.sub_self,show n-ws.length=(n-ws.length-1)+1 by omega,List.replicate_succ];rfl
theorem sw {n:Nat}{ws:List Nat}{x:Nat}(h:ws.length < n):(filled n ws).set ws.length (.int .u32 (x:Int))=filled n (ws++[x]):=by
 unfold filled;have:=IZ (ws:=eE ws) (z:=ah.int .u32 ((0:Nat):Int)) (x:=.int .u32 (x:Int)) (n:=n) (by rw[iF];exact h);rw[iF]at this;rw[this];simp[eE]
theorem Iz (ws:List Nat) (j x:Nat):(eE ws).set j (.int .u32 (x:Int))=eE (ws.set j x):=by simp[eE,List.map_set]
theorem IA {ws:List Nat}{j:Nat}(h:j < ws.length):(eE ws)[j]?=some (.int .u32 (ws.getD j 0:Nat)):=by
 rw[eE,List.getElem?_map,getD_some h];rfl
end Go.Esc
namespace Go.Esc.M
open Go Go.Esc
theorem Bz {G:ak}(b:UInt8):gv T G cm aJ (.int .u8 b.toNat)=some (.int .u32 (b.toNat:Nat)):=by
 have:b.toNat < 256:=b.toNat_lt;rw[jk cW kU rfl,u32_in (by omega) (by omega)]
theorem Lr {l:List UInt8}{j:Nat}{m:Int}(hm:m=(j:Int)) (h:j < l.length):pz T bH (.str l) (.int .i64 m)=some (.int .u8 l[j].toNat):=by
 subst hm;simp[pz,fS,iO,h]
theorem Kk {l:List UInt8}{n:Int}(h0:0≤n) (h:n≤l.length):dV T bH (.str l) none (some (.int .i64 n)) none=some (.str (l.take n.toNat)):=by
 have e:n=(n.toNat:Int):=by omega
 have hb:=pH (len:=l.length) (cap:=l.length) (m:=n.toNat) (k:=.i64) (by omega);rw[<- e]at hb;simp[dV,fS,iO,hb]
theorem IK {l:List UInt8}{n:Int}(h0:0≤n) (h:n≤l.length):dV T bH (.str l) (some (.int .i64 n)) none none=some (.str (l.drop n.toNat)):=by
 have e:n=(n.toNat:Int):=by omega
 have hb:=qB (len:=l.length) (cap:=l.length) (m:=n.toNat) (k:=.i64) (by omega) (by omega);rw[<- e]at hb;simp only[dV,fS,iO,hb];simp;exact List.take_of_length_le (by simp)
section
variable {G:ak}{Q:ah->ak->Prop}
theorem bL.use {a r:Nat}{m:Int}(hm:m=-(r:Int)) (h1:1≤r) (h2:r≤31) (hQ:Q (.int .u32 (yT r a:Nat)) G):al P bL.n [.int .u32 (a:Int),.int .i64 m] G Q:=by
 refine bL.sound ?_;unfold bL.S;have e1:IntKind.u64.wrap m=((18446744073709551616-r:Nat):Int):=by rw[rL];omega
 have e2:az T .and mJ (.int .u64 ((18446744073709551616-r:Nat):Int)) (.int .u64 31)=some (.int .u64 ((32-r:Nat):Int)):=by
  have hb:IntKind.u64.bits=64:=rfl;have h3:(BitVec.ofInt IntKind.u64.bits (31:Int)).toNat=2 ^ 5-1:=by decide
  rw[sY,rL,BitVec.toNat_and,h3,uP,hb,Nat.and_two_pow_sub_one_eq_mod];congr 2;omega
 rw[jk iD Dk rfl,aa,e1,e2,aa,tP (k:=32-r) rfl (by omega),aa,b7,aa];have e3:IntKind.u64.wrap (32-((32-r:Nat):Int))=(r:Int):=by rw[rL];omega
 rw[e3,rQ (k:=r) rfl (by omega),aa,u32_or,aa,HK];exact hQ
theorem gV.use (hQ:∀ G',Ch [] G [] G'->Q (.agg (eE oj)) G'):al P gV.n [] G Q:=by
 refine gV.sound ?_;unfold gV.S;intro i1 f1;refine ae (v:=.agg (eE oj)) (by kernel_rfl) ?_;have hg:(G.upd i1 (.own iy)) i1=some (.own (.agg (eE (List.replicate 64 0)))):=ak.dR _ _ _;refine fg (ze (cs:=eE (List.replicate 64 0)) (cs':=eE oj) jG rfl rfl rfl hg (lX _) (lX _) (rk _)) ?_;refine ae (rD jG rfl rfl (ak.dR _ _ _) (lX _)) ?_;refine hQ _ ?_;have s1:=(Sp.nil G).row f1 iy;refine Sp.ch (ps:=[au i1 (.agg (eE oj))]) ?_;refine s1.call (i:=0) rfl (au i1 (.agg (eE oj))) fun F h k=>?_;obtain⟨h,rfl⟩:=h;exact k _ _ ⟨ak.dR _ _ _,rfl⟩ ⟨tq h (by simp),fun j o hj hn=>by rw[ak.nb _ _ (fun e=>hn (by simp[e]))];exact hj,fun j hj=>.inl hj⟩
theorem iC.use {b:List UInt8}(hb:b.length=64) (hQ:∀ G',Ch [] G [] G'->Q (.agg (eE (sched 48 (words b 16)))) G'):al P iC.n [.str b] G Q:=by
 refine iC.sound ?_;unfold iC.S;obtain⟨S,hS⟩:∃ S,sched 48 (words b 16)=S:=⟨_,rfl⟩;rw[hS]at hQ;intro i1 f1;have s1:Sp [] G [au i1 (.agg (filled 64 []))] _:=(Sp.nil G).row f1 iy;intro i3 f3;have s3:Sp [] G [au i3 (.agg (filled 64 [])),au i1 (.agg (filled 64 []))] _:=s1.row f3 iy;revert s3;generalize ak.upd _ i3 (.own iy)=G4;intro s3 R5 hR5;have loop1:∀ (n i:Nat) (G':ak),16-i=n->i≤16->Sp [] G [au i3 (.agg (filled 64 (words b i))),au i1 (.agg (filled 64 []))] G'->R5 [.str b,.ptr i1 [] 0,.ptr i3 [] 0,.int .i64 (i:Int)] G':=by
  intro n;induction n with
  | zero=>
   intro i G' hn hi hs;have:i=16:=(by omega);subst this;refine hR5 _ _ _ _ _ ?_;rw[aM,aa,aI];refine⟨fun h=>absurd h (by decide),fun _=>?_⟩;intro R33 hR33;have loop2:∀ (n:Nat) (ws:List Nat) (G':ak),64-ws.length=n->16≤ws.length->ws.length≤64->sched n ws=S->Sp [] G [au i3 (.agg (filled 64 ws)),au i1 (.agg (filled 64 []))] G' ->
     R33 [.ptr i1 [] 0,.ptr i3 [] 0,.int .i64 (ws.length:Int)] G':=by
    intro n;induction n with
    | zero=>
     intro ws G' hn h16 h64 he hs;have hl:ws.length=64:=(by omega);refine hR33 _ _ _ _ ?_;rw[aM,aa,aI];refine⟨fun h=>absurd h (by omega),fun _=>?_⟩;have g3:=au.own (i:=0) hs rfl;have g1:=au.own (i:=1) hs rfl;rw[yv hl]at g3;have he:ws=S:=he;subst he;refine ae (rD jG rfl (by rw[iF,hl];rfl) g3 (lX _)) ?_;refine fg (ze jG rfl (by rw[iF,hl];rfl) (by rw[ph (by simp),iF,hl]) g1 (n7 _ _) (lX _) (rk _)) ?_;refine ae (rD jG rfl (by rw[iF,hl];rfl) (ak.dR _ _ _) (lX _)) ?_;refine hQ _ ?_;refine hs.call (i:=1) rfl (au i1 (.agg (eE ws))) fun F h k=>?_;obtain⟨h,rfl⟩:=h;exact (k _ _ ⟨ak.dR _ _ _,rfl⟩ (sZ h (by simp))).ch
    | succ n ih=>
     intro ws G' hn h16 h64 he hs;have hl:ws.length < 64:=(by omega);have g3:=au.own (i:=0) hs rfl;have ad:∀ {m:Int}{j:Nat},m=(j:Int)->j < 64->aO T bW (.ptr i3 [] 0) (.int .i64 m)=some (.ptr i3 [j] j):=fun hm hj=>qt jG rfl kU rfl hm hj;have ld:∀ {j:Nat},j < ws.length->ag T G' aJ (.ptr i3 [j] j)=some (.int .u32 (ws.getD j 0:Nat)):=fun hj=>wG kU g3 (n7 _ _) (AE hj) rfl;refine hR33 _ _ _ _ ?_;rw[aM,aa,aI];refine⟨fun _=>?_,fun h=>absurd (by omega) h⟩;rw[b7,aa,i64_in (by omega) (by omega),ad (j:=ws.length-15) (by omega) (by omega),aa,ld (by omega),aa];rw[b7,aa,i64_in (by omega) (by omega),ad (j:=ws.length-2) (by omega) (by omega),aa,ld (by omega),aa];refine bL.use (r:=7) (by omega) (by omega) (by omega) ?_;refine bL.use (r:=18) (by omega) (by omega) (by omega) ?_;rw[u32_xor,aa,rQ (k:=3) (n:=3) rfl (by omega),aa,u32_xor,aa];refine bL.use (r:=17) (by omega) (by omega) (by omega) ?_;refine bL.use (r:=19) (by omega) (by omega) (by omega) ?_;rw[u32_xor,aa,rQ (k:=10) (n:=10) rfl (by omega),aa,u32_xor,aa];rw[b7,aa,i64_in (by omega) (by omega),ad (j:=ws.length-16) (by omega) (by omega),aa,ld (by omega),aa,nJ,aa];rw[b7,aa,i64_in (by omega) (by omega),ad (j:=ws.length-7) (by omega) (by omega),aa,ld (by omega),aa,nJ,aa,nJ,aa];rw[ad (j:=ws.length) rfl hl,aa];refine fg (uq kU g3 (n7 _ _) (qH hl) rfl rfl rfl) ?_;rw[bg,aa,i64_in (by omega) (by omega),sw hl];have key:=ih (ws++[BV ws]) (G'.upd i3 (.own (.agg (filled 64 (ws++[BV ws]))))) (by simp;omega) (by simp;omega) (by simp;omega) he ?_
     ·rw[List.length_append]at key;exact key
     ·refine hs.call (i:=0) rfl (au i3 (.agg (filled 64 (ws++[BV ws])))) fun F h k=>?_;obtain⟨h,rfl⟩:=h;exact k _ _ ⟨ak.dR _ _ _,rfl⟩ (sZ h (by simp))
   have:=loop2 48 (words b 16) G' (by rw[gY]) (by rw[gY];omega) (by rw[gY];omega) hS hs
   rwa [gY]at this
  | succ n ih=>
   intro i G' hn hi hs;refine hR5 _ _ _ _ _ ?_;rw[aM,aa,aI];refine⟨fun _=>?_,fun h=>absurd (by omega) h⟩;intro R12 hR12;have hi16:i < 16:=(by omega);have inner:∀ (m k:Nat) (G':ak),4-k=m->k≤4->Sp [] G [au i3 (.agg ((filled 64 (words b i)).set i (.int .u32 (oM 0 ((b.drop (4 * i)).take k):Nat)))),au i1 (.agg (filled 64 []))] G' ->
     R12 [.str b,.ptr i1 [] 0,.ptr i3 [] 0,.int .i64 (i:Int),.int .i64 (i:Int),.int .i64 (k:Int)] G':=by
    intro m;induction m with
    | zero=>
     intro k G' hm hk hs;have:k=4:=(by omega);subst this;refine hR12 _ _ _ _ _ _ _ ?_;rw[aM,aa,aI];refine⟨fun h=>absurd h (by decide),fun _=>?_⟩;rw[bg,aa,i64_in (by omega) (by omega)];refine ih (i+1) G' (by omega) (by omega) ?_;rw[zp];have:=sw (n:=64) (ws:=words b i) (x:=word b i) (by rw[gY];omega);rw[gY]at this;rw[<- this];exact hs
    | succ m ihm=>
     intro k G' hm hk hs;have hlen:((filled 64 (words b i)).set i (.int .u32 (oM 0 ((b.drop (4 * i)).take k):Nat))).length=64:=(by rw[List.length_set,ph (by rw[gY];omega)]);have hu:uni 1 ((filled 64 (words b i)).set i (.int .u32 (oM 0 ((b.drop (4 * i)).take k):Nat)))=true:=CG (n7 _ _) rfl;have g3:=au.own (i:=0) hs rfl;have hget:((filled 64 (words b i)).set i (.int .u32 (oM 0 ((b.drop (4 * i)).take k):Nat)))[i]?=some (.int .u32 (oM 0 ((b.drop (4 * i)).take k):Nat)):=by
      rw[List.getElem?_set_self (by rw[ph (by rw[gY];omega)];omega)]
     refine hR12 _ _ _ _ _ _ _ ?_;rw[aM,aa,aI];refine⟨fun _=>?_,fun h=>absurd (by omega) h⟩;have ad:aO T bW (.ptr i3 [] 0) (.int .i64 (i:Int))=some (.ptr i3 [i] i):=qt jG rfl kU rfl rfl (by omega);rw[ad,aa,wG kU g3 hu hget rfl,aa,tP (k:=8) (n:=8) rfl (by omega),aa,kP,aa,i64_in (by omega) (by omega),bg,aa,i64_in (by omega) (by omega)];rw[Lr (j:=4 * i+k) (by omega) (by omega),aa,Bz,aa,u32_or,aa,aa];refine fg (uq kU g3 hu hget rfl rfl rfl) ?_;rw[bg,aa,i64_in (by omega) (by omega),List.set_set];have hk4:k < 4:=(by omega);have hsn:(b.drop (4 * i)).take (k+1)=(b.drop (4 * i)).take k++[b[4 * i+k]]:=by
      rw[List.take_add_one,List.getElem?_drop,List.getElem?_eq_getElem (by omega)];rfl
     have hnum:xx (pr 8 (oM 0 ((b.drop (4 * i)).take k))) (b[4 * i+k].toNat)=oM 0 ((b.drop (4 * i)).take (k+1)):=by
      have h1:=Ed ((b.drop (4 * i)).take k) 0;have h2:((b.drop (4 * i)).take k).length=k:=(by simp;omega);rw[h2]at h1;have h3:256 ^ k≤256 ^ 3:=Nat.pow_le_pow_right (by omega) (by omega);have hbb:b[4 * i+k].toNat < 256:=b[4 * i+k].toNat_lt;rw[hsn,Af,CU 8 _ _ (by omega) (by omega)];omega
     rw[hnum];refine ihm (k+1) _ (by omega) (by omega) ?_;refine hs.call (i:=0) rfl (au i3 (.agg ((filled 64 (words b i)).set i (.int .u32 (oM 0 ((b.drop (4 * i)).take (k+1)):Nat))))) fun F h k=>?_;obtain⟨h,rfl⟩:=h;exact k _ _ ⟨ak.dR _ _ _,rfl⟩ (sZ h (by simp))
   refine inner 4 0 G' rfl (by omega) ?_;have e0:(filled 64 (words b i)).set i (.int .u32 (oM 0 ((b.drop (4 * i)).take 0):Nat))=filled 64 (words b i):=by
    apply List.ext_getElem?;intro n;rw[List.getElem?_set];split
    ·rename_i h;subst h;have h2:=qH (n:=64) (ws:=words b i) (by rw[gY];omega);rw[gY]at h2;rw[if_pos (by rw[ph (by rw[gY];omega)];omega),h2];rfl
    ·rfl
   rw[e0];exact hs
 exact loop1 16 0 G4 rfl (by omega) s3
end
end Go.Esc.M
namespace Go.Esc
theorem LJ {r:List Nat}(h:r.length=8):∃ a b c d e f g k,r=[a,b,c,d,e,f,g,k]:=by
 match r,h with
 | [a,b,c,d,e,f,g,k],_=>exact⟨a,b,c,d,e,f,g,k,rfl⟩
theorem FD (k w:Nat) {r:List Nat}(h:r.length=8):(rnd k w r).length=8:=by
 obtain⟨a,b,c,d,e,f,g,k,rfl⟩:=LJ h;rfl
theorem ym:∀ (ks ws r:List Nat),r.length=8->(yU ks ws r).length=8
 | [],_,r,h=>by simpa[yU] using h
 | k :: ks,[],r,h=>by simpa[yU] using h
 | k :: ks,w :: ws,r,h=>by rw[yU];exact ym ks ws _ (FD k w h)
theorem pC {h:List Nat}{b:List UInt8}(hh:h.length=8):(compress h b).length=8:=by
 unfold compress;rw[List.length_zipWith,ym _ _ _ hh,hh];rfl
theorem wi:oj.length=64:=by decide
theorem sB {α:Type}{l:List α}{j:Nat}{x:α}(h:l[j]?=some x):l.drop j=x :: l.drop (j+1):=by
 obtain⟨hl,rfl⟩:=List.getElem?_eq_some_iff.1 h;exact List.drop_eq_getElem_cons hl
theorem Dz (i:AId) (p:List Nat) (o:Nat):lr (.ptr i p o)=some (.ptr i p o):=rfl
end Go.Esc
namespace Go.Esc.M
open Go Go.Esc
section
variable {G:ak}{Q:ah->ak->Prop}
theorem ko {i:AId}{m:Int}{j:Nat}(hm:m=(j:Int)) (hj:j < 8):aO T bn (.ptr i [] 0) (.int .i64 m)=some (.ptr i [j] j):=qt sJ rfl kU rfl hm hj
theorem ur {i:AId}{m:Int}{j:Nat}(hm:m=(j:Int)) (hj:j < 64):aO T bW (.ptr i [] 0) (.int .i64 m)=some (.ptr i [j] j):=qt jG rfl kU rfl hm hj
theorem gR {i:AId}{ws:List Nat}{j:Nat}{x:Nat}(hg:G i=some (.own (.agg (eE ws)))) (hj:ws[j]?=some x):ag T G aJ (.ptr i [j] j)=some (.int .u32 (x:Nat)):=
 wG kU hg (lX _) (by rw[eE,List.getElem?_map,hj];rfl) rfl
theorem Dw {i:AId}{ws:List Nat}{j:Nat}(x:Nat) (hg:G i=some (.own (.agg (eE ws)))) (hj:j < ws.length):aF T G aJ (.ptr i [j] j) (.int .u32 (x:Nat))=some (G.upd i (.own (.agg (eE (ws.set j x))))):=by
 have:=uq (c:=.int .u32 (x:Nat)) kU hg (lX _) (IA hj) rfl rfl rfl;rw[this,Iz]
theorem n4 {i:AId}{ws:List Nat}(hl:ws.length=8) (hg:G i=some (.own (.agg (eE ws)))):ag T G bn (.ptr i [] 0)=some (.agg (eE ws)):=rD sJ rfl (by rw[iF,hl];rfl) hg (lX _)
theorem nv {i:AId}{ws ws':List Nat}(hl:ws.length=8) (hl':ws'.length=8) (hg:G i=some (.own (.agg (eE ws)))):aF T G bn (.ptr i [] 0) (.agg (eE ws'))=some (G.upd i (.own (.agg (eE ws')))):=
 ze sJ rfl (by rw[iF,hl'];rfl) (by rw[iF,iF,hl,hl']) hg (lX _) (lX _) (rk _)
theorem Ij {i:AId}{ws:List Nat}(hl:ws.length=64) (hg:G i=some (.own (.agg (eE ws)))):ag T G bW (.ptr i [] 0)=some (.agg (eE ws)):=rD jG rfl (by rw[iF,hl];rfl) hg (lX _)
theorem sH {i:AId}{ws ws':List Nat}(hl:ws.length=64) (hl':ws'.length=64) (hg:G i=some (.own (.agg (eE ws)))):aF T G bW (.ptr i [] 0) (.agg (eE ws'))=some (G.upd i (.own (.agg (eE ws')))):=
 ze jG rfl (by rw[iF,hl'];rfl) (by rw[iF,iF,hl,hl']) hg (lX _) (lX _) (rk _)
theorem z8:mw=.agg (eE (List.replicate 8 0)):=rfl
theorem z64:iy=.agg (eE (List.replicate 64 0)):=rfl
def rF (r s:List Nat) (j:Nat):List Nat:=(List.zipWith nS r s).take j++r.drop j
theorem Gb (r s:List Nat):rF r s 0=r:=by simp[rF]
theorem Gc {r s:List Nat}(h:r.length=s.length):rF r s r.length=List.zipWith nS r s:=by
 unfold rF;rw[List.take_of_length_le (by simp;omega),List.drop_length,List.append_nil]
theorem C4 {r s:List Nat}{j:Nat}(h:r.length=s.length) (hj:j≤r.length):(rF r s j).length=r.length:=by
 simp[rF];omega
theorem Io {r s:List Nat}{j:Nat}(h:r.length=s.length) (hj:j < r.length):(rF r s j)[j]?=some r[j]:=by
 unfold rF;rw[List.getElem?_append_right (by simp;omega)];have:j-((List.zipWith nS r s).take j).length=0:=by simp;omega
 rw[this,List.getElem?_drop,Nat.add_zero,List.getElem?_eq_getElem hj]
theorem Im {r s:List Nat}{j:Nat}(h:r.length=s.length) (hj:j < r.length) (hs:j < s.length):(rF r s j).set j (nS r[j] s[j])=rF r s (j+1):=by
 unfold rF;have hl:((List.zipWith nS r s).take j).length=j:=by simp;omega
 rw[List.set_append_right _ _ (by omega),hl,Nat.sub_self,List.drop_eq_getElem_cons hj,List.set_cons_zero,List.take_add_one,List.getElem?_zipWith,List.getElem?_eq_getElem hj,List.getElem?_eq_getElem hs];simp
theorem EO {F0:List AId}{G0:ak}{s r:List Nat}{is ir:AId}{x3:ah}{G':ak}{ps:List LP}{p q:Nat}(hs8:s.length=8) (hr8:r.length=8) (hp:p < ps.length) (hpq:p≠q) (hq:ps[q]?=some (au is (.agg (eE s)))) (R:List ah->ak->Prop) (E:ah->ah->ah->ak->Prop)
  (hR:∀ (x93 x94 x95 x96:ah) (G92:ak),(wv (az T .lss ay x96 (.int .i64 8)) fun v97=>brB (some v97)
   (wv (aO T bn x95 x96) fun v98=>wv (ag T G92 aJ v98) fun v99=>wv (aO T bn x93 x96) fun v100=>wv (ag T G92 aJ v100) fun v101=>wv (az T .add aJ v99 v101) fun v102=>wv (aO T bn x95 x96) fun v103=>wg (aF T G92 aJ v103 v102) fun G104=>wv (az T .add ay x96 (.int .i64 1)) fun v105=>R [x93,x94,x95,v105] G104)
   (E x93 x94 x95 G92))->R [x93,x94,x95,x96] G92)
  (hsp:Sp F0 G0 (ps.set p (au ir (.agg (eE r)))) G') (hfin:∀ G',Sp F0 G0 (ps.set p (au ir (.agg (eE (List.zipWith nS r s))))) G'->E (.ptr is [] 0) x3 (.ptr ir [] 0) G') :
  R [.ptr is [] 0,x3,.ptr ir [] 0,.int .i64 0] G':=by
 have loop:∀ (n j:Nat) (G':ak),8-j=n->j≤8->Sp F0 G0 (ps.set p (au ir (.agg (eE (rF r s j))))) G'->R [.ptr is [] 0,x3,.ptr ir [] 0,.int .i64 (j:Int)] G':=by
  intro n;induction n with
  | zero=>
   intro j G' hn hj h;have:j=8:=(by omega);subst this;refine hR _ _ _ _ _ ?_;rw[aM,aa,aI];refine⟨fun h=>absurd h (by decide),fun _=>hfin _ ?_⟩;have e:=Gc (r:=r) (s:=s) (by omega);rw[hr8]at e;rw[<- e];exact h
  | succ n ih=>
   intro j G' hn hj h;have hjr:j < r.length:=(by omega);have hjs:j < s.length:=(by omega);have g1:=au.own (i:=p) h (List.getElem?_set_self hp);have g2:=au.own (i:=q) h (by rw[List.getElem?_set_ne hpq];exact hq);refine hR _ _ _ _ _ ?_;rw[aM,aa,aI];refine⟨fun _=>?_,fun h=>absurd (by omega) h⟩;rw[ko rfl (by omega),aa,gR g1 (Io (by omega) hjr),aa,ko rfl (by omega),aa,gR g2 (List.getElem?_eq_getElem hjs),aa,nJ,aa,aa,
    Dw _ g1 (by rw[C4 (by omega) (by omega)];exact hjr),jl,bg,aa,i64_in (by omega) (by omega),Im (by omega) hjr hjs]
   refine ih (j+1) _ (by omega) (by omega) ?_;have:=Sp.setRow h (j:=p) (List.getElem?_set_self hp) (.agg (eE (rF r s (j+1))))
   rwa [List.set_set]at this
 exact loop 8 0 G' rfl (by omega) (by rw[Gb];exact hsp)
theorem jv.use {s:List Nat}{b:List UInt8}{ic:AId}(hs8:s.length=8) (hb:b.length=64) (hc:G ic=some (.own (.agg (eE oj)))) (hQ:∀ G',Ch [] G [] G'->Q (.agg (eE (compress s b))) G') :
  al P jv.n [.agg (eE s),.str b,.ptr ic [] 0] G Q:=by
 refine jv.sound ?_;unfold jv.S;rw[z8,z64];unfold compress at hQ;obtain⟨W,hW⟩:∃ W,sched 48 (words b 16)=W:=⟨_,rfl⟩;have hW64:W.length=64:=by rw[<- hW,sc,gY]
 rw[hW]at hQ;obtain⟨fin,hfin⟩:∃ f,yU oj W s=f:=⟨_,rfl⟩;rw[hfin]at hQ;intro i1 f1;have s1:=(Sp.nil G).row f1 (.agg (eE s));intro i3 f3;have s3:=s1.row f3 (.agg (eE (List.replicate 8 0)));rw[n4 hs8 (au.own (i:=1) s3 rfl),aa];refine iC.use hb fun G7 c7=>?_;rw[hW];have s7:=s3.tmp c7;refine⟨⟨n4 hs8 (au.own (i:=1) s7 rfl),trivial⟩,?_⟩;intro i8 f8;have s8:=s7.row f8 (.agg (eE (List.replicate 64 0)));intro i10 f10;have s10:=s8.row f10 (.agg (eE (List.replicate 8 0)));rw[sH (by simp) hW64 (au.own (i:=1) s10 rfl),jl];have s12:=Sp.setRow s10 (j:=1) rfl (.agg (eE W));refine⟨⟨n4 hs8 (au.own (i:=3) s12 rfl),trivial⟩,?_⟩;rw[nv (by simp) hs8 (au.own (i:=0) s12 rfl),jl];have s13:Sp [] G [au i10 (.agg (eE s)),au i8 (.agg (eE W)),au i3 (.agg (eE (List.replicate 8 0))),au i1 (.agg (eE s))] _:=Sp.setRow s12 (j:=0) rfl (.agg (eE s));revert s13;generalize ak.upd _ i10 (.own (.agg (eE s)))=G13;intro s13 R14 hR14;have loop:∀ (n t:Nat) (r:List Nat) (G':ak),64-t=n->t≤64->r.length=8->yU (oj.drop t) (W.drop t) r=fin->Sp [] G [au i10 (.agg (eE r)),au i8 (.agg (eE W)),au i3 (.agg (eE (List.replicate 8 0))),au i1 (.agg (eE s))] G' ->
   R14 [.ptr ic [] 0,.ptr i1 [] 0,.ptr i3 [] 0,.ptr i8 [] 0,.ptr i10 [] 0,.int .i64 (t:Int)] G':=by
  intro n;induction n with
  | zero=>
   intro t r G' hn ht hr8 he h;have:t=64:=(by omega);subst this;refine hR14 _ _ _ _ _ _ _ ?_;rw[aM,aa,aI];refine⟨fun h=>absurd h (by decide),fun _=>?_⟩;have he:r=fin:=by
    rw[List.drop_of_length_le (by rw[wi];omega)]at he;exact he
   subst he;intro R91 hR91;refine EO (p:=0) (q:=3) (x3:=.ptr i3 [] 0) hs8 hr8 (by simp) (by decide) (ps:=[au i10 (.agg (eE r)),au i8 (.agg (eE W)),au i3 (.agg (eE (List.replicate 8 0))),au i1 (.agg (eE s))]) rfl R91 _ hR91 h fun G9 h9=>?_;have hz:(List.zipWith nS r s).length=8:=(by rw[List.length_zipWith,hr8,hs8];rfl);rw[n4 hz (au.own (i:=0) h9 rfl),aa,nv (by simp) hz (au.own (i:=2) h9 rfl),jl,n4 hz (ak.dR _ _ _),aa];exact hQ _ (Sp.setRow h9 (j:=2) rfl (.agg (eE (List.zipWith nS r s)))).ch
  | succ n ih=>
   intro t r G' hn ht hr8 he h;obtain⟨a,b,c,d,e,f,g,k,rfl⟩:=LJ hr8;have ht64:t < 64:=(by omega);obtain⟨w,hw⟩:∃ w,W[t]?=some w:=⟨_,List.getElem?_eq_getElem (by omega)⟩;obtain⟨q,hq⟩:∃ q,oj[t]?=some q:=⟨_,List.getElem?_eq_getElem (by rw[wi];omega)⟩;have gr:=au.own (i:=0) h rfl;have gw:=au.own (i:=1) h rfl;have gc:G' ic=some (.own (.agg (eE oj))):=h.ch.others _ _ hc (by simp);have L0:=gR (j:=0) gr rfl;have L1:=gR (j:=1) gr rfl;have L2:=gR (j:=2) gr rfl;have L3:=gR (j:=3) gr rfl;have L4:=gR (j:=4) gr rfl;have L5:=gR (j:=5) gr rfl;have L6:=gR (j:=6) gr rfl;have L7:=gR (j:=7) gr rfl;have LW:=gR gw hw;have LK:=gR gc hq;have A0:=ko (i:=i10) (m:=0) (j:=0) rfl (by omega);have A1:=ko (i:=i10) (m:=1) (j:=1) rfl (by omega);have A2:=ko (i:=i10) (m:=2) (j:=2) rfl (by omega);have A3:=ko (i:=i10) (m:=3) (j:=3) rfl (by omega);have A4:=ko (i:=i10) (m:=4) (j:=4) rfl (by omega);have A5:=ko (i:=i10) (m:=5) (j:=5) rfl (by omega);have A6:=ko (i:=i10) (m:=6) (j:=6) rfl (by omega);have A7:=ko (i:=i10) (m:=7) (j:=7) rfl (by omega);have AW:=ur (i:=i8) (m:=(t:Int)) rfl ht64;have AK:=ur (i:=ic) (m:=(t:Int)) rfl ht64;refine hR14 _ _ _ _ _ _ _ ?_;rw[aM,aa,aI];refine⟨fun _=>?_,fun h=>absurd (by omega) h⟩;simp -zeta only [A0,A1,A2,A3,A4,A5,A6,A7,AW,AK,Dz,aa,L0,L1,L2,L3,L4,L5,L6,L7,LW,LK,u32_and,u32_xor,tQ,nJ];refine bL.use (r:=6) (by omega) (by omega) (by omega) ⟨⟨LW,LK,L6,L5,L7,trivial⟩,?_⟩;refine bL.use (r:=11) (by omega) (by omega) (by omega) ⟨⟨LW,LK,L6,L5,L7,trivial⟩,?_⟩;rw[u32_xor,aa];refine bL.use (r:=25) (by omega) (by omega) (by omega) ⟨⟨LW,LK,L6,L5,L7,trivial⟩,?_⟩;simp -zeta only [AW,AK,aa,L0,L1,L2,L3,L4,L5,L6,L7,LW,LK,u32_and,u32_xor,tQ,nJ];refine bL.use (r:=2) (by omega) (by omega) (by omega) ⟨⟨L2,L1,L2,L1,trivial⟩,?_⟩;refine bL.use (r:=13) (by omega) (by omega) (by omega) ⟨⟨L2,L1,L2,L1,trivial⟩,?_⟩;rw[u32_xor,aa];refine bL.use (r:=22) (by omega) (by omega) (by omega) ⟨⟨L2,L1,L2,L1,trivial⟩,?_⟩;simp -zeta only [aa,L0,L1,L2,L3,L4,L5,L6,L7,u32_and,u32_xor,tQ,nJ];have hnext:(rnd q w [a,b,c,d,e,f,g,k]).length=8:=rfl;refine ae (v:=.agg (eE (rnd q w [a,b,c,d,e,f,g,k]))) rfl ?_;rw[nv hr8 hnext gr,jl,bg,aa,i64_in (by omega) (by omega)];refine ih (t+1) _ _ (by omega) (by omega) hnext ?_ (Sp.setRow h (j:=0) rfl _);rw[sB hq,sB hw,yU]at he;exact he
 exact loop 64 0 s G13 rfl (by omega) hs8 hfin s13
end
end Go.Esc.M
