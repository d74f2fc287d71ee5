import Derived.Test.YtkojimdacnohpaaGreatDoorEF
set_option linter.unusedSimpArgs false
set_option linter.unusedVariables false
namespace Go.Esc
open Go Go.RowKit
section
variable {P:Program}{T:Tbl} (hT:gF P T)
theorem uJ {α β:Type}{f:α->Sem β}{g:α->β}(w:World):∀ (l:List α),(∀ x∈l,(f x).run P w=.ok (g x) w)->(l.mapM f).run P w=.ok (l.map g) w
 | [],_=>by simp
 | x :: l,h=>by
  rw[List.mapM_cons];simp[h x (by simp),uJ w l (fun y hy=>h y (by simp[hy]))]
theorem zP {α β:Type}{f:α->Sem β}{g:α->β}(w:World) (l:Array α) (h:∀ x∈l.toList,(f x).run P w=.ok (g x) w):(l.mapM f).run P w=.ok (l.map g) w:=by
 rw[Array.mapM_eq_mapM_toList];rw[Sem.run_map,uJ w _ h];simp only[Result.andThen_ok];congr 1;apply Array.ext';simp
include hT in
theorem CF {t:TypeId}{parts:List (Nat×ah)}{v:ah}(h:bj T t parts=some v) (w:World) :
    (Instr.build t (parts.map fun q=>(q.1,cv q.2)).toArray).run P w=.ok (cv v) w:=by
  unfold bj at h;split at h
  · rename_i i hi
    have hty:=hT t i hi;obtain⟨ds,hu,hd⟩:=hty.und;split at h
    · rename_i fs zs hdesc hz
      rw[hdesc]at hd;obtain⟨fields,rfl,rfl⟩:=pv hd;split at h
      · rename_i hall
        split at h
        · rename_i cs hcs
          injection h with h;subst h
          let sizes:Field->Nat×Nat:=fun f=>(f.offset,((T f.type).map (·.size)).getD 0)
          have hm:(fields.mapM fun f=>do pure (f.offset,<- sizeOf f.type):Sem (Array (Nat×Nat))).run P w=.ok (fields.map sizes) w:=by
            refine zP w fields fun f hf=>?_;simp only[List.all_map,List.all_eq_true,Function.comp]at hall;have:=hall f hf;cases hti:T f.type with
            | none=>simp[hti]at this
            | some ti=>simp[(hT _ ti hti).run_sizeOf,sizes,hti]
          have hpl:(fun k=>(fields.map sizes)[k]?)=places T (fields.toList.map fun g=>(g.type,g.offset)):=by
            funext k;simp only[places,Array.getElem?_map,List.getElem?_map,Array.getElem?_toList];cases hk:fields[k]? with
            | none=>simp
            | some f=>
              simp only[Option.map_some];simp only[List.all_map,List.all_eq_true,Function.comp]at hall;have:=hall f (by rw[<- Array.getElem?_toList]at hk;exact List.mem_of_getElem? hk);cases hti:T f.type with
              | none=>simp[hti]at this
              | some ti=>simp[sizes,hti]
          have hfill:=qI parts zs cs hcs;rw[<- hpl]at hfill;simp only[Instr.build,Sem.run_bind,hty.tp,Result.andThen_ok,run_underlying hu,hm,hz,cv,Value.cells,hfill,Sem.run_pure]
        · cases h
      · cases h
    · rename_i n e zs hdesc hz
      have hu:=hty.u hdesc (fun _=>og);split at h
      · rename_i ie hie
        split at h
        · rename_i cs hcs
          injection h with h;subst h;have hfill:=qI parts zs cs hcs;simp only[Instr.build,Sem.run_bind,hty.tp,Result.andThen_ok,run_underlying hu,(hT e ie hie).run_sizeOf,hz,cv,Value.cells,hfill,Sem.run_pure]
        · cases h
      · cases h
    · cases h
  · cases h
theorem rY {B:lq}{G:ak}{w:World}(hr:Rel B G w) {id:AId}{es:List (ah×ah)}(h:G id=some (.map es)) :
  ∃ ents clk,(getObj id.block).run P w=.ok (.map ents clk) w/\w.heap[id.block]?=some (.map ents clk)/\ents.toList.map (fun e=>(e.key,e.val))=es.map (fun p=>(cv p.1,cv p.2)):=by
 obtain⟨_,_,_,ents,clk,h1,h2⟩:=hr.obj id _ h;exact⟨ents,clk,by simp[getObj,Sem.run,h1],h1,h2⟩
include hT in
theorem E3 {B:lq}{G:ak}{w:World}(hr:Rel B G w) {t ty:TypeId}{x v:ah}(h:fU T G t x=some v) :
  (Builtin.len_ #[t] ty #[cv x]).run P w=.ok (cv v) w:=by
 unfold fU at h;split at h
 ·rename_i i hi;have hty:=hT t i hi;split at h
  ·rename_i s hdesc;have hu:=hty.u hdesc (fun _=>oB);injection h with h;subst h;have e1:(⟨s.toArray⟩:ByteArray).size=s.length:=(by simp[ByteArray.size]);simp[Builtin.len_,run_underlying hu,cv,goInt,e1]
  ·rename_i hdesc;have hu:=hty.u hdesc (fun _=>kl);injection h with h;subst h;simp[Builtin.len_,run_underlying hu,cv,goInt]
  ·rename_i hdesc;have hu:=hty.u hdesc (fun _=>kl);injection h with h;subst h;simp[Builtin.len_,run_underlying hu,cv,goInt]
  ·rename_i hdesc;have hu:=hty.u hdesc (fun _=>og);injection h with h;subst h;simp[Builtin.len_,run_underlying hu,cv,goInt]
  ·rename_i hdesc;have hu:=hty.u hdesc (fun _=>wy);injection h with h;subst h;simp[Builtin.len_,run_underlying hu,cv,goInt]
  ·rename_i id hdesc;have hu:=hty.u hdesc (fun _=>wy);split at h
   ·rename_i es hes;injection h with h;subst h;obtain⟨ents,clk,h1,_,h3⟩:=rY (P:=P) hr hes;have hl:=congrArg List.length h3;simp at hl;simp[Builtin.len_,run_underlying hu,cv,goInt,h1,hl]
   ·cases h
  ·cases h
 ·cases h
include hT in
theorem E6 {w:World}{t ty:TypeId}{x v:ah}(h:Lk T t x=some v) :
  (Builtin.cap_ #[t] ty #[cv x]).run P w=.ok (cv v) w:=by
 unfold Lk at h;split at h
 ·rename_i i hi;have hty:=hT t i hi;split at h
  ·rename_i hdesc;have hu:=hty.u hdesc (fun _=>kl);injection h with h;subst h;simp[Builtin.cap_,run_underlying hu,cv,goInt]
  ·rename_i hdesc;have hu:=hty.u hdesc (fun _=>kl);injection h with h;subst h;simp[Builtin.cap_,run_underlying hu,cv,goInt]
  ·cases h
 ·cases h
theorem DA {w:World}{x y v:ah}{ts:Array TypeId}{ty:TypeId}(h:qy x y=some v):(Builtin.min_ ts ty #[cv x,cv y]).run P w=.ok (cv v) w:=by
 unfold qy at h;split at h
 ·injection h with h;subst h;simp[Builtin.min_,Builtin.min2,cv]
 ·cases h
theorem DB {w:World}{x y v:ah}{ts:Array TypeId}{ty:TypeId}(h:zr x y=some v):(Builtin.max_ ts ty #[cv x,cv y]).run P w=.ok (cv v) w:=by
 unfold zr at h;split at h
 ·injection h with h;subst h;simp[Builtin.max_,Builtin.max2,cv]
 ·cases h
theorem BJ {d:TypeDesc}{k e:ah}{b:Bool}(hd:kY (descOf d) k=true) (h:uI k e=some b):Instr.sameNow d (cv k) (cv e)=some b:=by
 unfold uI at h;split at h
 ·split at h
  ·rename_i hk;injection h with h;subst h;subst hk;cases d<;>simp[descOf,kY]at hd;simp[Instr.sameNow,cv,beq_eq_decide]
  ·cases h
 ·injection h with h;subst h;cases d<;>simp[descOf,kY]at hd;rename_i a b;simp only[Instr.sameNow,cv];rw[beq_toListBytes,toList_mk,toList_mk,xR]
 ·injection h with h;subst h;cases d<;>simp[descOf,kY]at hd;simp[Instr.sameNow,cv]
 ·cases h
theorem xG {d:TypeDesc}{k:ah}(hd:kY (descOf d) k=true):∀ (es:List (ah×ah)) (ents:List MapEntry) (i:Nat) (r:Option (Nat×ah)),
  ents.map (fun e=>(e.key,e.val))=es.map (fun p=>(cv p.1,cv p.2))->oA k es i=some r ->
  Instr.findNow d (cv k) ents i=some (r.map fun q=>(q.1,cv q.2))
 | [],ents,i,r,he,h=>by
  simp at he;subst he;simp[oA]at h;subst h;simp[Instr.findNow]
 | e :: es,ents,i,r,he,h=>by
  cases ents with
  | nil=>simp at he
  | cons x ents=>
   simp only[List.map_cons,List.cons.injEq,Prod.mk.injEq]at he;obtain⟨⟨h1,h2⟩,h3⟩:=he;simp only[oA]at h;split at h
   ·rename_i hs;injection h with h;subst h;simp[Instr.findNow,h1,BJ hd hs,h2]
   ·rename_i hs;simp only[Instr.findNow,h1,BJ hd hs];exact xG hd es ents (i+1) r h3 h
   ·cases h
theorem qm {t:TypeId}{i:TI}(hty:gl P t i) {k:ah}(hd:kY i.desc k=true) (w:World) (empty:Bool):(Instr.checkKey empty 10000 t (cv k)).run P w=.ok () w:=by
 obtain⟨ds,hu,hdd⟩:=hty.und;rw[<- hdd]at hd;rw[show (10000:Nat)=9999+1 from rfl];generalize 9999=n;cases ds<;>simp[descOf,kY]at hd<;>cases k<;>simp[kY]at hd<;>simp[Instr.checkKey,run_underlying hu,cv]
include hT in
theorem Be {B:lq}{G:ak}{w:World}(hr:Rel B G w) {t:TypeId}{m k v:ah}{ok:Bool}(h:jg T G t m k ok=some v) :
    (Instr.lookup t (cv m) (cv k) ok).run P w=.ok (cv v) w:=by
  unfold jg at h;split at h
  · rename_i i hi
    have hty:=hT t i hi;split at h
    · rename_i kt et hdesc
      have hu:=hty.u hdesc (fun _=>wy);split at h
      · rename_i ki ei hki hei
        split at h
        · rename_i hkf
          split at h
          · rename_i es hes
            have htk:=hT kt ki hki;obtain⟨dk,huk,hdk⟩:=htk.und;have hkf':kY (descOf dk) k=true:=(by rw[hdk];exact hkf);have rest:∀ ents:Array MapEntry,ents.toList.map (fun e=>(e.key,e.val))=es.map (fun p=>(cv p.1,cv p.2)) ->
                (do Instr.checkKey ents.isEmpty 10000 kt (cv k)
                    let r <- Instr.findKey kt (cv k) ents.toList
                    match r with
                    | some (_,v)=>do
                      let x <- pure (v,true)
                      pure (if ok=true then .tuple #[x.1,.bool x.2] else x.1)
                    | none=>do
                      let z <- zeroValue et
                      let x <- pure (z,false)
                      pure (if ok=true then .tuple #[x.1,.bool x.2] else x.1):Sem Value).run P w=.ok (cv v) w:=by
              intro ents he2;have hfind:∀ r,oA k es 0=some r->(Instr.findKey kt (cv k) ents.toList).run P w=.ok (r.map fun q=>(q.1,cv q.2)) w:=by
                intro r hrr;simp[Instr.findKey,run_underlying huk,xG hkf' es ents.toList 0 r he2 hrr]
              simp only[Sem.run_bind,Result.andThen_ok,qm htk hkf];split at h
              · rename_i j v' hf
                injection h with h;subst h;rw[hfind _ hf];cases ok<;>simp[cv,cvs]
              · rename_i hf
                injection h with h;subst h;rw[hfind _ hf];cases ok<;>simp[cv,cvs,(hT et ei hei).tp]
              · cases h
            unfold tB at hes;split at hes
            · injection hes with hes;subst hes
              simp only[Instr.lookup,Sem.run_bind,run_underlying hu,Result.andThen_ok,cv,Sem.run_pure];have:=rest #[] (by simp);simp only[Sem.run_bind]at this;exact this
            · split at hes
              · rename_i id es' hid
                injection hes with hes;subst hes;obtain⟨ents,clk,h1,_,h3⟩:=rY (P:=P) hr hid;simp only[Instr.lookup,Sem.run_bind,run_underlying hu,Result.andThen_ok,cv,Sem.run_pure,h1];have:=rest ents h3;simp only[Sem.run_bind]at this;exact this
              · cases hes
            · cases hes
          · cases h
        · cases h
      · cases h
    · cases h
  · cases h
theorem Ci {env:Env}{a:Act}(he:ny env a.tmps):∀ {xs:List Operand}{vs:List ah},evs env xs=some vs->xs.map a.eval=vs.map cv
 | [],vs,h=>by simp[evs]at h;subst h;rfl
 | x :: xs,vs,h=>by
  simp only[evs]at h;split at h
  ·rename_i v vs' h1 h2;injection h with h;subst h;simp[dr he h1,Ci he h2]
  ·cases h
theorem um {env:Env}{a:Act}(he:ny env a.tmps) {xs:Array Operand}{vs:List ah}(h:evs env xs.toList=some vs):xs.map a.eval=(cvs vs).toArray:=by
 apply Array.ext';rw[Array.toList_map,Ci he h,vv]
theorem xJ {env:Env}{a:Act}(he:ny env a.tmps) {x:Option Operand}{v:Option ah}(h:evo env x=some v):x.map a.eval=v.map cv:=by
 cases x with
 | none=>simp[evo]at h;subst h;rfl
 | some x=>
  simp only[evo]at h;split at h
  ·rename_i u hu;injection h with h;subst h;simp[dr he hu]
  ·cases h
theorem xH {env:Env}{a:Act}(he:ny env a.tmps):∀ {xs:List (Nat×Operand)}{vs:List (Nat×ah)},evp env xs=some vs->xs.map (fun q=>(q.1,a.eval q.2))=vs.map fun q=>(q.1,cv q.2)
 | [],vs,h=>by simp[evp]at h;subst h;rfl
 | (k,x) :: xs,vs,h=>by
  simp only[evp]at h;split at h
  ·rename_i v vs' h1 h2;injection h with h;subst h;simp[dr he h1,xH he h2]
  ·cases h
theorem Hr {op:UnOp}{x v:ah}(h:vun op x=some v) (w:World):(Op.unary op (cv x)).run P w=.ok (cv v) w:=by
 unfold vun at h;split at h<;>first
  | (injection h with h;subst h;simp[Op.unary,Op.intArith,Op.intBits,cv];done)
  | cases h
theorem vE {op:BinOp}{t:TypeId}{k k':IntKind}{a b:Int}{v:ah}(h:wR op k a b=some v) (w:World) (ho:op=.shl\/op=.shr):(binOp op t (.int k a) (.int k' b)).run P w=.ok (cv v) w:=by
 unfold wR at h;by_cases hb:b < 0
 ·rw[if_pos hb]at h;cases h
 ·rw[if_neg hb]at h;rcases ho with rfl | rfl
  ·injection h with h;subst h;simp[binOp,Op.shift,hb,cv]
  ·injection h with h;subst h;simp[binOp,Op.shift,hb,cv]
include hT in
theorem E7 {op:BinOp}{t:TypeId}{x y v:ah}(h:az T op t x y=some v) (w:World):(binOp op t (cv x) (cv y)).run P w=.ok (cv v) w:=by
  unfold az at h;split at h
  · rename_i k a k' b
    split at h
    · exact vE h w (.inl rfl)
    · exact vE h w (.inr rfl)
    · rename_i h1 h2
      split at h
      · rename_i hk
        subst hk;exact E4 w h (fun e=>h1 e) (fun e=>h2 e)
      · cases h
  · exact E0 w h
  · rename_i hni hns
    split at h
    · split at h
      · rename_i b hb
        injection h with h;subst h;have:=rM (P:=P) hT 9 _ _ _ _ hb 9991 w;have e:(binOp .eql t (cv x) (cv y))=(do pure (.bool (<- Op.equal t (cv x) (cv y)))):=by
          cases x<;>cases y<;>first
            | rfl
            | exact (hni _ _ _ _ rfl rfl).elim
            | exact (hns _ _ rfl rfl).elim
        rw[e];simp[Op.equal,Op.maxDepth,this,cv]
      · cases h
    · split at h
      · rename_i b hb
        injection h with h;subst h;have:=rM (P:=P) hT 9 _ _ _ _ hb 9991 w;have e:(binOp .neq t (cv x) (cv y))=(do pure (.bool (!(<- Op.equal t (cv x) (cv y))))):=by
          cases x<;>cases y<;>first
            | rfl
            | exact (hni _ _ _ _ rfl rfl).elim
            | exact (hns _ _ rfl rfl).elim
        rw[e];simp[Op.equal,Op.maxDepth,this,cv]
      · cases h
    · cases h
theorem Ix {t:TypeId}{xs ys:List ah}{b:Bool}{d:Nat}(hT:gF P T) (h:kV T d t (.agg xs) (.agg ys)=some b):P.eqGuardType P.depth t=false:=by
 cases d with
 | zero=>simp[kV]at h
 | succ d=>
  simp only[kV]at h;split at h
  ·cases h
  ·rename_i i hi;have hty:=hT t i hi;split at h<;>first
    | (rename_i hdesc _ _;exact (hty.agg (by rw[hdesc];rfl)).1)
    | simp_all
theorem Bo {op:BinOp}{t:TypeId}{x y:Operand}{a b v:ah}(hT:gF P T) (hg:KK T op t x y=true) (h:az T op t a b=some v) (w:World):(eqGuard op t x y (cv a) (cv b)).run P w=.ok () w:=by
  by_cases ho:op=.eql\/op=.neq
  · have hnil:Ah T t=true->a=.nilIface->b=.nilIface->False:=by
      intro hn ha hb;subst ha;subst hb;have:kV T 9 t .nilIface .nilIface=none:=by
        simp only[kV,Ah]at hn ⊢;split
        · rfl
        · rename_i i hi
          rw[hi]at hn;cases hd:i.desc<;>simp_all
      rcases ho with rfl | rfl<;>simp[az,this]at h
    rcases ho with rfl | rfl
    all_goals
      cases a<;>cases b<;>first
        | (simp[eqGuard,cv];done)
        | (cases hx:isConst x<;>cases hy:isConst y<;>simp only[KK,hx,hy,Bool.false_or,Bool.or_false,Bool.true_or,Bool.or_true]at hg <;>
            first
              | exact (hnil hg rfl rfl).elim
              | (cases x<;>cases y<;>simp[isConst]at hx hy<;>simp[eqGuard,cv];done))
        | (have hq:P.eqGuardType P.depth t=false:=by
             simp only[az]at h
             split at h
             · exact Ix hT ‹_›
             · cases h
           simp[eqGuard,cv,hq])
  · have:eqGuard op t x y (cv a) (cv b)=pure ():=by
      cases op<;>first | rfl | exact absurd (.inl rfl) ho | exact absurd (.inr rfl) ho
    rw[this];rfl
end
end Go.Esc
