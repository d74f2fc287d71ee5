import Derived.Test.YtkojimdacnohpaaGreatDoorEN
set_option linter.unusedSimpArgs false
set_option linter.unusedVariables false
namespace Go.Esc
open Go Go.RowKit
def tv (T:Tbl):Op->Bool
 | .load _ _=>true
 | .lookup _ _ _ _=>true
 | .convert _ d _=>match T d with
  | some i=>match i.desc with
   | .int _=>false
   | _=>true
  | none=>true
 | .call c=>match c.callee with
  | .builtin .len=>match c.argTypes.toList with
   | [t]=>match T t with
    | some i=>match i.desc with
     | .map _ _=>true
     | _=>false
    | none=>true
   | _=>true
  | _=>false
 | _=>false
theorem yw {T:Tbl}{env:Env}{G G':ak}{op:Op}(h:tv T op=false):mX T env G op=mX T env G' op:=by
 cases op<;>try rfl
 case load=>simp[tv]at h
 case lookup=>simp[tv]at h
 case convert s d x=>
  simp only[tv]at h;simp only[mX];cases ev env x with
  | none=>rfl
  | some v=>
   simp only[gv];cases hs:T s with
   | none=>rfl
   | some si=>
    cases hd:T d with
    | none=>rfl
    | some di=>
     simp only[hd]at h;split at h
     ·rename_i k hk;simp only[hk];cases v<;>rfl
     ·cases h
 case call c=>
  simp only[tv]at h;simp only[mX];split at h
  ·rename_i hc;simp only[hc];split at h
   ·rename_i t ht;simp only[ht];cases ha:c.args.toList with
    | nil=>rfl
    | cons x xs=>
     cases xs with
     | cons y ys=>rfl
     | nil=>
      simp only;cases ev env x with
      | none=>rfl
      | some v=>
       simp only[fU];cases hT:T t with
       | none=>rfl
       | some i=>
        simp only[hT]at h;split at h
        ·cases h
        ·rename_i hk;cases hd:i.desc<;>first | exact absurd hd (hk _ _) | (simp only[hd]<;>(cases v<;>rfl))
   ·cases h
  ·rename_i hc;split<;>first | rfl | exact absurd ‹_› hc
theorem Gm {G G':ak}(h:G.le G') {a v:ah}(hv:nI G a=some v):nI G' a=some v:=by
 cases a<;>try (simp[nI]at hv)
 rename_i id p off;simp only[nI];cases hg:G id with
 | none=>simp[hg]at hv
 | some o=>rw[h id o hg];simpa[hg] using hv
theorem DC {T:Tbl}{G G':ak}(h:G.le G') {t:TypeId}{a v:ah}(hv:ag T G t a=some v):ag T G' t a=some v:=by
 unfold ag at *;cases hs:nI G a with
 | none=>simp[hs]at hv
 | some u=>rw[Gm h hs];simpa[hs] using hv
theorem EL {G G':ak}(h:G.le G') {n:Nat}{id:AId}{p:List Nat}{st off:Nat}{v:List ah}(hv:lO G n id p st off=some v):lO G' n id p st off=some v:=by
 unfold lO at *;cases hs:nI G (.ptr id p (off-st * n)) with
 | none=>simp[hs]at hv
 | some u=>rw[Gm h hs];simpa[hs] using hv
theorem pO {G G':ak}(h:G.le G') {n:Nat}{x:ah}{v:List ah}(hv:gq G n x=some v):gq G' n x=some v:=by
 cases x<;>try (first | exact hv | (simp[gq]at hv;done))
 rename_i id p st off len cap;simp only[gq]at *;cases hs:lO G n id p st off with
 | none=>simp[hs]at hv
 | some u=>rw[EL h hs];simpa[hs] using hv
theorem Jm {G G':ak}(h:G.le G') {x:ah}{v:List (ah×ah)}(hv:tB G x=some v):tB G' x=some v:=by
 cases x<;>try (first | exact hv | (simp[tB]at hv;done))
 rename_i id;simp only[tB]at *;cases hs:G id with
 | none=>simp[hs]at hv
 | some u=>rw[h _ _ hs];simpa[hs] using hv
theorem DE {T:Tbl}{G G':ak}(h:G.le G') {s d:TypeId}{x v:ah}(hv:gv T G s d x=some v):gv T G' s d x=some v:=by
 unfold gv at *;split at hv
 ·rename_i si di hs hd
  (try simp only[hs,hd])
  split at hv
  ·rename_i hdd;(try simp only[hdd]);exact hv
  ·rename_i hdd;(try simp only[hdd]);exact hv
  ·rename_i hnot hdd
   (try simp only[hdd])
   split at hv
   ·rename_i e he;split at hv
    ·rename_i ie hie;split at hv
     ·rename_i hk;split at hv
      ·(try simp only[he,hie,hk]);exact hv
      ·rename_i id p st off len cap
       (try simp only[he,hie,hk])
       cases hse:gq G 1 (.slice id p st off len cap) with
       | none=>simp[hse]at hv
       | some vs=>rw[pO h hse];simpa[hse] using hv
      ·cases hv
     ·cases hv
    ·cases hv
   ·cases hv
  ·cases hv
 ·cases hv
theorem Kc {T:Tbl}{G G':ak}(h:G.le G') {t:TypeId}{x v:ah}(hv:fU T G t x=some v):fU T G' t x=some v:=by
 unfold fU at *;split at hv
 ·rename_i i hi
  (try simp only[hi])
  split at hv
  case _ hd=>(try simp only[hd]);exact hv
  case _ hd=>(try simp only[hd]);exact hv
  case _ hd=>(try simp only[hd]);exact hv
  case _ hd=>(try simp only[hd]);exact hv
  case _ hd=>(try simp only[hd]);exact hv
  case _ id hd=>
   (try simp only[hd])
   cases hs:G id with
   | none=>simp[hs]at hv
   | some u=>rw[h _ _ hs];simpa[hs] using hv
  ·cases hv
 ·cases hv
theorem E2 {T:Tbl}{G G':ak}(h:G.le G') {t:TypeId}{m k v:ah}{ok:Bool}(hv:jg T G t m k ok=some v):jg T G' t m k ok=some v:=by
 unfold jg at *;split at hv
 ·rename_i i hi
  (try simp only[hi])
  split at hv
  ·rename_i kt et hd
   (try simp only[hd])
   split at hv
   ·rename_i ki ei hk he
    (try simp only[hk,he])
    split at hv
    ·rename_i hf
     (try (try simp only[hf,if_true]))
     cases hs:tB G m with
     | none=>simp[hs]at hv
     | some es=>rw[Jm h hs];simpa[hs] using hv
    ·cases hv
   ·cases hv
  ·cases hv
 ·cases hv
theorem KO {T:Tbl}{env:Env}{G G':ak}(h:G.le G') {op:Op}{v:ah}(hv:mX T env G op=some v):mX T env G' op=some v:=by
 cases hr:tv T op with
 | false=>rw[<- yw (G:=G) hr];exact hv
 | true=>
  cases op<;>try (simp[tv]at hr;done)
  case load t x=>
   simp only[mX]at *;split at hv
   ·exact DC h hv
   ·cases hv
  case lookup t m k ok=>
   simp only[mX]at *;split at hv
   ·exact E2 h hv
   ·cases hv
  case convert s d x=>
   simp only[mX]at *;split at hv
   ·exact DE h hv
   ·cases hv
  case call c=>
   simp only[mX]at *;split at hv
   ·split at hv
    ·split at hv
     ·exact Kc h hv
     ·cases hv
    ·cases hv
   all_goals exact hv
theorem kT {T:Tbl}{G:ak}{chk:List Nat}:∀ {ld:List Ld},recheck T G chk ld ↔ ∀ e∈ld,mh e.idx chk=true->e.val T G=some e.v
 | []=>by simp[recheck]
 | e :: ld=>by
  unfold recheck;cases h:mh e.idx chk with
  | true=>simp[h,kT (ld:=ld)]
  | false=>simp[h,kT (ld:=ld)]
theorem tu {T:Tbl}{G:ak}{ld:List Ld}:recheck T G [] ld:=kT.2 fun e _ h=>by simp[mh]at h
theorem Ld.Ll {T:Tbl}{G G':ak}(h:G.le G') {e:Ld}{v:ah}(hv:e.val T G=some v):e.val T G'=some v:=by
 unfold Ld.val at *;cases hs:e.s with
 | none=>rw[hs]at hv;exact DC h hv
 | some s=>rw[hs]at hv;exact DE h hv
theorem vg {T:Tbl}{G G':ak}(h:G.le G') {chk:List Nat}{ld:List Ld}(hr:recheck T G chk ld):recheck T G' chk ld:=
 kT.2 fun e he hm=>Ld.Ll h (kT.1 hr e he hm)
theorem rC {env env':Env}:∀ {l:List Operand},(∀ x∈l,ev env x=ev env' x)->evs env l=evs env' l
 | [],_=>rfl
 | x :: l,h=>by simp only[evs,h x (by simp),rC (l:=l) (fun y hy=>h y (by simp[hy]))]
theorem xI {env env':Env}:∀ {l:List (Nat×Operand)},(∀ x∈l,ev env x.2=ev env' x.2)->evp env l=evp env' l
 | [],_=>rfl
 | (k,x) :: l,h=>by simp only[evp,h (k,x) (by simp),xI (l:=l) (fun y hy=>h y (by simp[hy]))]
theorem xK {env env':Env}{o:Option Operand}(h:∀ x,o=some x->ev env x=ev env' x):evo env o=evo env' o:=by
 cases o with
 | none=>rfl
 | some x=>simp only[evo,h x rfl]
theorem qj {T:Tbl}{env env':Env}{G:ak}{op:Op}(h:∀ x∈op.operands.toList,ev env x=ev env' x):mX T env G op=mX T env' G op:=by
 cases op<;>try rfl
 case move x=>simp only[mX,h x (by simp[Op.operands])]
 case assign x=>simp only[mX,h x (by simp[Op.operands])]
 case pick c a b=>simp only[mX,h c (by simp[Op.operands]),h a (by simp[Op.operands]),h b (by simp[Op.operands])]
 case load t x=>simp only[mX,h x (by simp[Op.operands])]
 case nilCheck x=>simp only[mX,h x (by simp[Op.operands])]
 case binOp op t x y z=>simp only[mX,h x (by simp[Op.operands]),h y (by simp[Op.operands])]
 case unOp op t x=>simp only[mX,h x (by simp[Op.operands])]
 case convert s d x=>simp only[mX,h x (by simp[Op.operands])]
 case makeInterface t x=>simp only[mX,h x (by simp[Op.operands])]
 case makeFunc fn a b=>simp only[mX,rC (l:=a.toList) (fun x hx=>h x (by simp[Op.operands]at hx ⊢;exact .inl hx)),rC (l:=b.toList) (fun x hx=>h x (by simp[Op.operands]at hx ⊢;exact .inr hx))]
 case slice t x l hh m=>
  simp only[mX,h x (by simp[Op.operands]),xK (o:=l) (fun y hy=>h y (by subst hy;simp[Op.operands])),xK (o:=hh) (fun y hy=>h y (by subst hy;simp[Op.operands])),
   xK (o:=m) (fun y hy=>h y (by subst hy;simp[Op.operands]))]
 case fieldAddr s x f=>simp only[mX,h x (by simp[Op.operands])]
 case field s x f=>simp only[mX,h x (by simp[Op.operands])]
 case indexAddr t x i=>simp only[mX,h x (by simp[Op.operands]),h i (by simp[Op.operands])]
 case index t x i=>simp only[mX,h x (by simp[Op.operands]),h i (by simp[Op.operands])]
 case extract x k=>simp only[mX,h x (by simp[Op.operands])]
 case lookup t m k ok=>simp only[mX,h m (by simp[Op.operands]),h k (by simp[Op.operands])]
 case build t ps=>simp only[mX,xI (l:=ps.toList) (fun x hx=>h x.2 (by simp[Op.operands];exact⟨_,by simpa using hx⟩))]
 case call c=>
  have ha:∀ x∈c.args.toList,ev env x=ev env' x:=fun x hx=>h x (by simp[Op.operands,Call.operands]at hx ⊢;exact .inr hx);simp only[mX];split
  all_goals try rfl
  ·split
   ·rename_i x t hx ht;rw[ha x (by simp[hx])]
   ·rfl
  ·split
   ·rename_i x t hx ht;rw[ha x (by simp[hx])]
   ·rfl
  ·split
   ·rename_i x y hx;rw[ha x (by simp[hx]),ha y (by simp[hx])]
   ·rfl
  ·split
   ·rename_i x y hx;rw[ha x (by simp[hx]),ha y (by simp[hx])]
   ·rfl
theorem qp {cx:Cx}{env env':Env}{G:ak}{K:Option ah->ak->Prop}{op:Op}(h:∀ x∈op.operands.toList,ev env x=ev env' x):jI cx env G K op=jI cx env' G K op:=by
 cases op<;>try rfl
 case box t x=>simp only[jI,h x (by simp[Op.operands])]
 case buildSlice t n ps=>simp only[jI,xI (l:=ps.toList) (fun x hx=>h x.2 (by simp[Op.operands];exact⟨_,by simpa using hx⟩))]
 case makeSlice t l c=>simp only[jI,h l (by simp[Op.operands]),h c (by simp[Op.operands])]
 case makeMap t r=>cases r<;>rfl
 case store t a v=>simp only[jI,h a (by simp[Op.operands]),h v (by simp[Op.operands])]
 case mapUpdate t m k v=>simp only[jI,h m (by simp[Op.operands]),h k (by simp[Op.operands]),h v (by simp[Op.operands])]
 case insert t m k v=>simp only[jI,h m (by simp[Op.operands]),h k (by simp[Op.operands]),h v (by simp[Op.operands])]
 case convert s d x=>simp only[jI,h x (by simp[Op.operands])]
 case call c=>
  have ha:∀ x∈c.args.toList,ev env x=ev env' x:=fun x hx=>h x (by simp[Op.operands,Call.operands]at hx ⊢;exact .inr hx);simp only[jI];split
  ·split
   ·rename_i s x ts tx hs ht;rw[ha s (by simp[hs]),ha x (by simp[hs])]
   ·rfl
  ·split
   ·rename_i s x ts tx hs ht;rw[ha s (by simp[hs]),ha x (by simp[hs])]
   ·rfl
  ·rename_i f hf;rw[h f (by simp[Op.operands,Call.operands,hf]),rC ha]
  ·rename_i r m hf;rw[h r (by simp[Op.operands,Call.operands,hf]),rC ha]
  ·rfl
theorem JG {env:Env}{d:Option Nat}{v:Option ah}{x:Operand}(h:∀ t,d=some t->x≠.tmp t):ev (env.put d v) x=ev env x:=by
 cases d with
 | none=>rfl
 | some t=>
  cases x<;>try rfl
  rename_i y;have hne:y≠t:=fun e=>h t rfl (by rw[e]);simp only[ev,Env.put];cases hb:Nat.beq y t with
  | true=>exact absurd (Nat.eq_of_beq_eq_true hb) hne
  | false=>rfl
theorem put_comm {env:Env}{d e:Option Nat}{u v:Option ah}(h:∀ t,d=some t->e≠some t):(env.put d u).put e v=(env.put e v).put d u:=by
 cases d with
 | none=>rfl
 | some s=>
  cases e with
  | none=>rfl
  | some t=>
   have hne:s≠t:=fun e=>h s rfl (by rw[e]);funext x;simp only[Env.put];cases h1:Nat.beq x s with
   | true=>
    cases h2:Nat.beq x t with
    | true=>exact absurd ((Nat.eq_of_beq_eq_true h1).symm.trans (Nat.eq_of_beq_eq_true h2)) hne
    | false=>simp[h1,h2]
   | false=>cases h2:Nat.beq x t<;>simp[h1,h2]
theorem I3 {env:Env}{t:Nat}{v:ah}(h:env t=some v):env.put (some t) (some v)=env:=by
 funext x;simp only[Env.put];cases hb:Nat.beq x t with
 | true=>rw[Nat.eq_of_beq_eq_true hb,h];rfl
 | false=>rfl
theorem Ca {i:TI}{G:ak}{olds vs:List ah}{K K':ah->ak->Prop}(hk:∀ v G',K v G'->K' v G') (h:grow i G olds vs K):grow i G olds vs K':=
 ⟨h.1,h.2.1,fun id cap a b c=>hk _ _ (h.2.2 id cap a b c)⟩
theorem Eo {i:TI}{G:ak}{id:AId}{p:List Nat}{st off at_:Nat}{vs:List ah}{K K':ak->Prop}(hk:∀ G',K G'->K' G') (h:lay i G id p st off at_ vs K):lay i G id p st off at_ vs K':=by
 cases vs with
 | nil=>exact hk _ h
 | cons v vs=>
  simp only[lay]at *;split at h
  ·obtain⟨h1,h2,h3,h4⟩:=h;refine⟨h1,h2,h3,?_⟩;split at h4
   ·exact hk _ h4
   ·exact h4
  ·exact h
theorem wJ {T:Tbl}{G:ak}{ts tx:TypeId}{s x:ah}{K K':ah->ak->Prop}(hk:∀ v G',K v G'->K' v G') (h:cn T G ts tx s x K):cn T G ts tx s x K':=by
 replace h:=h.out
 refine⟨?_⟩;unfold rH at *;split at h
 ·split at h
  ·split at h
   ·refine⟨h.1,?_⟩;have h:=h.2;split at h
    ·split at h
     ·split at h
      ·exact hk _ _ h
      ·exact Ca hk h
     ·refine⟨fun a=>Eo (fun _=>hk _ _) (h.1 a),fun a=>?_⟩;have h:=h.2 a;split at h
      ·exact Ca hk h
      ·exact h
     ·exact h
    ·exact h
   ·exact h
  ·exact h
 ·exact h
theorem Gd {T:Tbl}{G:ak}{td:TypeId}{d x:ah}{K K':ah->ak->Prop}(hk:∀ v G',K v G'->K' v G') (h:wI T G td d x K):wI T G td d x K':=by
 unfold wI at *;split at h
 ·split at h
  ·split at h
   ·split at h
    ·split at h
     ·exact hk _ _ h
     ·exact Eo (fun _=>hk _ _) h
     ·exact h
    ·exact h
   ·exact h
  ·exact h
 ·exact h
theorem sO {T:Tbl}{G:ak}{t:TypeId}{m k v:ah}{K K':ak->Prop}(hk:∀ G',K G'->K' G') (h:gD T G t m k v K):gD T G t m k v K':=by
 unfold gD at *;split at h
 ·split at h
  ·split at h
   ·refine⟨h.1,?_⟩;have h:=h.2;split at h
    ·split at h
     ·split at h
      ·exact hk _ h
      ·exact hk _ h
      ·exact h
     ·exact h
    ·exact h
   ·exact h
  ·exact h
 ·exact h
theorem oC {cx:Cx}{env:Env}{G:ak}{K K':Option ah->ak->Prop}(hk:∀ v G',K v G'->K' v G') {op:Op}(h:jI cx env G K op):jI cx env G K' op:=by
 cases op<;>simp only[jI]at *<;>try exact h
 case alloc t=>
  split at h
  ·exact fun id a=>hk _ _ (h id a)
  ·exact h
 case box t x=>
  split at h
  ·exact fun id a=>hk _ _ (h id a)
  ·exact h
 case buildSlice t n ps=>
  split at h
  ·unfold bu at *;split at h
   ·split at h
    ·split at h
     ·split at h
      ·exact⟨h.1,fun id a=>hk _ _ (h.2 id a)⟩
      ·exact h
     ·exact h
    ·exact h
   ·exact h
  ·exact h
 case makeSlice t l c=>
  split at h
  ·unfold lg at *;split at h
   ·split at h
    ·split at h
     ·obtain⟨h1,h2,h3,h4,h5⟩:=h;exact⟨h1,h2,h3,h4,fun id a=>hk _ _ (h5 id a)⟩
     ·exact h
    ·exact h
   ·exact h
  ·exact h
 case makeMap t r=>
  cases r with
  | none=>exact fun id a=>hk _ _ (h id a)
  | some r=>exact h
 case store t a v=>
  split at h
  ·unfold wg at *;split at h
   ·exact hk _ _ h
   ·exact h
  ·exact h
 case mapUpdate t m k v=>
  split at h
  ·exact sO (fun _=>hk _ _) h
  ·exact h
 case insert t m k v=>
  split at h
  ·exact sO (fun _=>hk _ _) h
  ·exact h
 case convert s d x=>
  split at h
  ·unfold nd at *;split at h
   ·split at h
    ·split at h
     ·exact⟨h.1,h.2.1,fun cap a b id c=>hk _ _ (h.2.2 cap a b id c)⟩
     ·exact h
    ·exact h
   ·exact h
  ·exact h
 case call c=>
  split at h
  ·split at h
   ·split at h
    ·exact wJ (fun _ _=>hk _ _) h
    ·exact h
   ·exact h
  ·split at h
   ·split at h
    ·exact Gd (fun _ _=>hk _ _) h
    ·exact h
   ·exact h
  ·split at h
   ·unfold oS at *;split at h
    ·exact h.mono fun _ _=>hk _ _
    ·exact h
   ·exact h
  ·split at h
   ·unfold uv at *;split at h
    ·split at h
     ·exact h.mono fun _ _=>hk _ _
     ·exact h
    ·exact h
   ·exact h
  ·exact h
end Go.Esc
