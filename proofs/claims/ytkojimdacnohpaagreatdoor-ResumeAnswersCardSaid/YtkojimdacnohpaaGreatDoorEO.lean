import Derived.Test.YtkojimdacnohpaaGreatDoorEN
set_option linter.unusedSimpArgs false
set_option linter.unusedVariables false
namespace Go.Esc
open Go Go.RowKit
def rW (T:Tbl):Op -> Bool
 | .load _ _=>true
 | .lookup _ _ _ _=>true
 | .convert _ d _=>match T d with
  | some i=>match i.desc with
   | .int _=>false
   | _=>true
  | none=>true
 | .call c=>match c.callee with
  | .builtin .len=>match c.argTypes.toList with
   | [t]=>match T t with
    | some i=>match i.desc with
     | .map _ _=>true
     | _=>false
    | none=>true
   | _=>true
  | _=>false
 | _=>false
theorem w9 {T:Tbl} {env:Env} {G G':ah} {op:Op} (h:rW T op = false):lk T env G op = lk T env G' op:=by
 cases op <;> try rfl
 case load=>simp [rW] at h
 case lookup=>simp [rW] at h
 case convert s d x=>
  simp only [rW] at h
  simp only [lk]
  cases ev env x with
  | none=>rfl
  | some v=>
   simp only [gi]
   cases hs:T s with
   | none=>rfl
   | some si=>
    cases hd:T d with
    | none=>rfl
    | some di=>
     simp only [hd] at h
     split at h
     ·rename_i k hk
      simp only [hk]
      cases v <;> rfl
     ·cases h
 case call c=>
  simp only [rW] at h
  simp only [lk]
  split at h
  ·rename_i hc
   simp only [hc]
   split at h
   ·rename_i t ht
    simp only [ht]
    cases ha:c.args.toList with
    | nil=>rfl
    | cons x xs=>
     cases xs with
     | cons y ys=>rfl
     | nil=>
      simp only
      cases ev env x with
      | none=>rfl
      | some v=>
       simp only [gF]
       cases hT:T t with
       | none=>rfl
       | some i=>
        simp only [hT] at h
        split at h
        ·cases h
        ·rename_i hk
         cases hd:i.desc <;> first | exact absurd hd (hk _ _) | (simp only [hd] <;> (cases v <;> rfl))
   ·cases h
  ·rename_i hc
   split <;> first | rfl | exact absurd ‹_› hc
theorem E6 {G G':ah} (h:G.le G') {a v:ag} (hv:mo G a = some v):mo G' a = some v:=by
 cases a <;> try (simp [mo] at hv)
 rename_i id p off
 simp only [mo]
 cases hg:G id with
 | none=>simp [hg] at hv
 | some o=>rw [h id o hg]; simpa [hg] using hv
theorem Cp {T:Tbl} {G G':ah} (h:G.le G') {t:TypeId} {a v:ag} (hv:lq T G t a = some v):lq T G' t a = some v:=by
 unfold lq at *
 cases hs:mo G a with
 | none=>simp [hs] at hv
 | some u=>rw [E6 h hs]; simpa [hs] using hv
theorem DD {G G':ah} (h:G.le G') {n:Nat} {id:AId} {p:List Nat} {st off:Nat} {v:List ag} (hv:kg G n id p st off = some v):kg G' n id p st off = some v:=by
 unfold kg at *
 cases hs:mo G (.ptr id p (off - st * n)) with
 | none=>simp [hs] at hv
 | some u=>rw [E6 h hs]; simpa [hs] using hv
theorem oY {G G':ah} (h:G.le G') {n:Nat} {x:ag} {v:List ag} (hv:fT G n x = some v):fT G' n x = some v:=by
 cases x <;> try (first | exact hv | (simp [fT] at hv; done))
 rename_i id p st off len cap
 simp only [fT] at *
 cases hs:kg G n id p st off with
 | none=>simp [hs] at hv
 | some u=>rw [DD h hs]; simpa [hs] using hv
theorem Il {G G':ah} (h:G.le G') {x:ag} {v:List (ag × ag)} (hv:rY G x = some v):rY G' x = some v:=by
 cases x <;> try (first | exact hv | (simp [rY] at hv; done))
 rename_i id
 simp only [rY] at *
 cases hs:G id with
 | none=>simp [hs] at hv
 | some u=>rw [h _ _ hs]; simpa [hs] using hv
theorem Cs {T:Tbl} {G G':ah} (h:G.le G') {s d:TypeId} {x v:ag} (hv:gi T G s d x = some v):gi T G' s d x = some v:=by
 unfold gi at *
 split at hv
 ·rename_i si di hs hd
  (try simp only [hs,hd])
  split at hv
  ·rename_i hdd; (try simp only [hdd]); exact hv
  ·rename_i hdd; (try simp only [hdd]); exact hv
  ·rename_i hnot hdd
   (try simp only [hdd])
   split at hv
   ·rename_i e he
    split at hv
    ·rename_i ie hie
     split at hv
     ·rename_i hk
      split at hv
      ·(try simp only [he,hie,hk]); exact hv
      ·rename_i id p st off len cap
       (try simp only [he,hie,hk])
       cases hse:fT G 1 (.slice id p st off len cap) with
       | none=>simp [hse] at hv
       | some vs=>rw [oY h hse]; simpa [hse] using hv
      ·cases hv
     ·cases hv
    ·cases hv
   ·cases hv
  ·cases hv
 ·cases hv
theorem Jo {T:Tbl} {G G':ah} (h:G.le G') {t:TypeId} {x v:ag} (hv:gF T G t x = some v):gF T G' t x = some v:=by
 unfold gF at *
 split at hv
 ·rename_i i hi
  (try simp only [hi])
  split at hv
  case _ hd=>(try simp only [hd]); exact hv
  case _ hd=>(try simp only [hd]); exact hv
  case _ hd=>(try simp only [hd]); exact hv
  case _ hd=>(try simp only [hd]); exact hv
  case _ hd=>(try simp only [hd]); exact hv
  case _ id hd=>
   (try simp only [hd])
   cases hs:G id with
   | none=>simp [hs] at hv
   | some u=>rw [h _ _ hs]; simpa [hs] using hv
  ·cases hv
 ·cases hv
theorem DS {T:Tbl} {G G':ah} (h:G.le G') {t:TypeId} {m k v:ag} {ok:Bool} (hv:ja T G t m k ok = some v):ja T G' t m k ok = some v:=by
 unfold ja at *
 split at hv
 ·rename_i i hi
  (try simp only [hi])
  split at hv
  ·rename_i kt et hd
   (try simp only [hd])
   split at hv
   ·rename_i ki ei hk he
    (try simp only [hk,he])
    split at hv
    ·rename_i hf
     (try (try simp only [hf,if_true]))
     cases hs:rY G m with
     | none=>simp [hs] at hv
     | some es=>rw [Il h hs]; simpa [hs] using hv
    ·cases hv
   ·cases hv
  ·cases hv
 ·cases hv
theorem JY {T:Tbl} {env:Env} {G G':ah} (h:G.le G') {op:Op} {v:ag} (hv:lk T env G op = some v):lk T env G' op = some v:=by
 cases hr:rW T op with
 | false=>rw [<- w9 (G:=G) hr]; exact hv
 | true=>
  cases op <;> try (simp [rW] at hr; done)
  case load t x=>
   simp only [lk] at *
   split at hv
   ·exact Cp h hv
   ·cases hv
  case lookup t m k ok=>
   simp only [lk] at *
   split at hv
   ·exact DS h hv
   ·cases hv
  case convert s d x=>
   simp only [lk] at *
   split at hv
   ·exact Cs h hv
   ·cases hv
  case call c=>
   simp only [lk] at *
   split at hv
   ·split at hv
    ·split at hv
     ·exact Jo h hv
     ·cases hv
    ·cases hv
   all_goals exact hv
theorem jP {T:Tbl} {G:ah} {chk:List Nat}:∀ {ld:List Ld},recheck T G chk ld ↔ ∀ e ∈ ld,kz e.idx chk = true -> e.val T G = some e.v
 | []=>by simp [recheck]
 | e :: ld=>by
  unfold recheck
  cases h:kz e.idx chk with
  | true=>simp [h,jP (ld:=ld)]
  | false=>simp [h,jP (ld:=ld)]
theorem rV {T:Tbl} {G:ah} {ld:List Ld}:recheck T G [] ld:=jP.2 fun e _ h=>by simp [kz] at h
theorem Ld.Ku {T:Tbl} {G G':ah} (h:G.le G') {e:Ld} {v:ag} (hv:e.val T G = some v):e.val T G' = some v:=by
 unfold Ld.val at *
 cases hs:e.s with
 | none=>rw [hs] at hv; exact Cp h hv
 | some s=>rw [hs] at hv; exact Cs h hv
theorem tT {T:Tbl} {G G':ah} (h:G.le G') {chk:List Nat} {ld:List Ld} (hr:recheck T G chk ld):recheck T G' chk ld :=
 jP.2 fun e he hm=>Ld.Ku h (jP.1 hr e he hm)
theorem qA {env env':Env}:∀ {l:List Operand},(∀ x ∈ l,ev env x = ev env' x) -> evs env l = evs env' l
 | [],_=>rfl
 | x :: l,h=>by simp only [evs,h x (by simp),qA (l:=l) (fun y hy=>h y (by simp [hy]))]
theorem wj {env env':Env}:∀ {l:List (Nat × Operand)},(∀ x ∈ l,ev env x.2 = ev env' x.2) -> evp env l = evp env' l
 | [],_=>rfl
 | (k,x) :: l,h=>by simp only [evp,h (k,x) (by simp),wj (l:=l) (fun y hy=>h y (by simp [hy]))]
theorem wm {env env':Env} {o:Option Operand} (h:∀ x,o = some x -> ev env x = ev env' x):evo env o = evo env' o:=by
 cases o with
 | none=>rfl
 | some x=>simp only [evo,h x rfl]
theorem pA {T:Tbl} {env env':Env} {G:ah} {op:Op} (h:∀ x ∈ op.operands.toList,ev env x = ev env' x):lk T env G op = lk T env' G op:=by
 cases op <;> try rfl
 case move x=>simp only [lk,h x (by simp [Op.operands])]
 case assign x=>simp only [lk,h x (by simp [Op.operands])]
 case pick c a b=>simp only [lk,h c (by simp [Op.operands]),h a (by simp [Op.operands]),h b (by simp [Op.operands])]
 case load t x=>simp only [lk,h x (by simp [Op.operands])]
 case nilCheck x=>simp only [lk,h x (by simp [Op.operands])]
 case binOp op t x y z=>simp only [lk,h x (by simp [Op.operands]),h y (by simp [Op.operands])]
 case unOp op t x=>simp only [lk,h x (by simp [Op.operands])]
 case convert s d x=>simp only [lk,h x (by simp [Op.operands])]
 case makeInterface t x=>simp only [lk,h x (by simp [Op.operands])]
 case makeFunc fn a b=>simp only [lk,qA (l:=a.toList) (fun x hx=>h x (by simp [Op.operands] at hx ⊢; exact .inl hx)),qA (l:=b.toList) (fun x hx=>h x (by simp [Op.operands] at hx ⊢; exact .inr hx))]
 case slice t x l hh m=>
  simp only [lk,h x (by simp [Op.operands]),wm (o:=l) (fun y hy=>h y (by subst hy; simp [Op.operands])),wm (o:=hh) (fun y hy=>h y (by subst hy; simp [Op.operands])),
   wm (o:=m) (fun y hy=>h y (by subst hy; simp [Op.operands]))]
 case fieldAddr s x f=>simp only [lk,h x (by simp [Op.operands])]
 case field s x f=>simp only [lk,h x (by simp [Op.operands])]
 case indexAddr t x i=>simp only [lk,h x (by simp [Op.operands]),h i (by simp [Op.operands])]
 case index t x i=>simp only [lk,h x (by simp [Op.operands]),h i (by simp [Op.operands])]
 case extract x k=>simp only [lk,h x (by simp [Op.operands])]
 case lookup t m k ok=>simp only [lk,h m (by simp [Op.operands]),h k (by simp [Op.operands])]
 case build t ps=>simp only [lk,wj (l:=ps.toList) (fun x hx=>h x.2 (by simp [Op.operands]; exact ⟨_,by simpa using hx⟩))]
 case call c=>
  have ha:∀ x ∈ c.args.toList,ev env x = ev env' x:=fun x hx=>h x (by simp [Op.operands,Call.operands] at hx ⊢; exact .inr hx)
  simp only [lk]
  split
  all_goals try rfl
  ·split
   ·rename_i x t hx ht
    rw [ha x (by simp [hx])]
   ·rfl
  ·split
   ·rename_i x t hx ht
    rw [ha x (by simp [hx])]
   ·rfl
  ·split
   ·rename_i x y hx
    rw [ha x (by simp [hx]),ha y (by simp [hx])]
   ·rfl
  ·split
   ·rename_i x y hx
    rw [ha x (by simp [hx]),ha y (by simp [hx])]
   ·rfl
theorem pG {cx:Cx} {env env':Env} {G:ah} {K:Option ag -> ah -> Prop} {op:Op} (h:∀ x ∈ op.operands.toList,ev env x = ev env' x):iN cx env G K op = iN cx env' G K op:=by
 cases op <;> try rfl
 case box t x=>simp only [iN,h x (by simp [Op.operands])]
 case buildSlice t n ps=>simp only [iN,wj (l:=ps.toList) (fun x hx=>h x.2 (by simp [Op.operands]; exact ⟨_,by simpa using hx⟩))]
 case makeSlice t l c=>simp only [iN,h l (by simp [Op.operands]),h c (by simp [Op.operands])]
 case makeMap t r=>cases r <;> rfl
 case store t a v=>simp only [iN,h a (by simp [Op.operands]),h v (by simp [Op.operands])]
 case mapUpdate t m k v=>simp only [iN,h m (by simp [Op.operands]),h k (by simp [Op.operands]),h v (by simp [Op.operands])]
 case insert t m k v=>simp only [iN,h m (by simp [Op.operands]),h k (by simp [Op.operands]),h v (by simp [Op.operands])]
 case convert s d x=>simp only [iN,h x (by simp [Op.operands])]
 case call c=>
  have ha:∀ x ∈ c.args.toList,ev env x = ev env' x:=fun x hx=>h x (by simp [Op.operands,Call.operands] at hx ⊢; exact .inr hx)
  simp only [iN]
  split
  ·split
   ·rename_i s x ts tx hs ht
    rw [ha s (by simp [hs]),ha x (by simp [hs])]
   ·rfl
  ·split
   ·rename_i s x ts tx hs ht
    rw [ha s (by simp [hs]),ha x (by simp [hs])]
   ·rfl
  ·rename_i f hf
   rw [h f (by simp [Op.operands,Call.operands,hf]),qA ha]
  ·rename_i r m hf
   rw [h r (by simp [Op.operands,Call.operands,hf]),qA ha]
  ·rfl
theorem IM {env:Env} {d:Option Nat} {v:Option ag} {x:Operand} (h:∀ t,d = some t -> x ≠ .tmp t):ev (env.put d v) x = ev env x:=by
 cases d with
 | none=>rfl
 | some t=>
  cases x <;> try rfl
  rename_i y
  have hne:y ≠ t:=fun e=>h t rfl (by rw [e])
  simp only [ev,Env.put]
  cases hb:Nat.beq y t with
  | true=>exact absurd (Nat.eq_of_beq_eq_true hb) hne
  | false=>rfl
theorem put_comm {env:Env} {d e:Option Nat} {u v:Option ag} (h:∀ t,d = some t -> e ≠ some t):(env.put d u).put e v = (env.put e v).put d u:=by
 cases d with
 | none=>rfl
 | some s=>
  cases e with
  | none=>rfl
  | some t=>
   have hne:s ≠ t:=fun e=>h s rfl (by rw [e])
   funext x
   simp only [Env.put]
   cases h1:Nat.beq x s with
   | true=>
    cases h2:Nat.beq x t with
    | true=>exact absurd ((Nat.eq_of_beq_eq_true h1).symm.trans (Nat.eq_of_beq_eq_true h2)) hne
    | false=>simp [h1,h2]
   | false=>cases h2:Nat.beq x t <;> simp [h1,h2]
theorem HW {env:Env} {t:Nat} {v:ag} (h:env t = some v):env.put (some t) (some v) = env:=by
 funext x
 simp only [Env.put]
 cases hb:Nat.beq x t with
 | true=>rw [Nat.eq_of_beq_eq_true hb,h]; rfl
 | false=>rfl
theorem AB {i:TI} {G:ah} {olds vs:List ag} {K K':ag -> ah -> Prop} (hk:∀ v G',K v G' -> K' v G') (h:grow i G olds vs K):grow i G olds vs K' :=
 ⟨h.1,h.2.1,fun id cap a b c=>hk _ _ (h.2.2 id cap a b c)⟩
theorem C9 {i:TI} {G:ah} {id:AId} {p:List Nat} {st off at_:Nat} {vs:List ag} {K K':ah -> Prop} (hk:∀ G',K G' -> K' G') (h:lay i G id p st off at_ vs K):lay i G id p st off at_ vs K':=by
 cases vs with
 | nil=>exact hk _ h
 | cons v vs=>
  simp only [lay] at *
  split at h
  ·obtain ⟨h1,h2,h3,h4⟩:=h
   refine ⟨h1,h2,h3,?_⟩
   split at h4
   ·exact hk _ h4
   ·exact h4
  ·exact h
theorem vk {T:Tbl} {G:ah} {ts tx:TypeId} {s x:ag} {K K':ag -> ah -> Prop} (hk:∀ v G',K v G' -> K' v G') (h:cc T G ts tx s x K):cc T G ts tx s x K':=by
 replace h:=h.out
 refine ⟨?_⟩
 unfold qH at *
 split at h
 ·split at h
  ·split at h
   ·refine ⟨h.1,?_⟩
    have h:=h.2
    split at h
    ·split at h
     ·split at h
      ·exact hk _ _ h
      ·exact AB hk h
     ·refine ⟨fun a=>C9 (fun _=>hk _ _) (h.1 a),fun a=>?_⟩
      have h:=h.2 a
      split at h
      ·exact AB hk h
      ·exact h
     ·exact h
    ·exact h
   ·exact h
  ·exact h
 ·exact h
theorem EX {T:Tbl} {G:ah} {td:TypeId} {d x:ag} {K K':ag -> ah -> Prop} (hk:∀ v G',K v G' -> K' v G') (h:vj T G td d x K):vj T G td d x K':=by
 unfold vj at *
 split at h
 ·split at h
  ·split at h
   ·split at h
    ·split at h
     ·exact hk _ _ h
     ·exact C9 (fun _=>hk _ _) h
     ·exact h
    ·exact h
   ·exact h
  ·exact h
 ·exact h
theorem rC {T:Tbl} {G:ah} {t:TypeId} {m k v:ag} {K K':ah -> Prop} (hk:∀ G',K G' -> K' G') (h:gh T G t m k v K):gh T G t m k v K':=by
 unfold gh at *
 split at h
 ·split at h
  ·split at h
   ·refine ⟨h.1,?_⟩
    have h:=h.2
    split at h
    ·split at h
     ·split at h
      ·exact hk _ h
      ·exact hk _ h
      ·exact h
     ·exact h
    ·exact h
   ·exact h
  ·exact h
 ·exact h
theorem ny {cx:Cx} {env:Env} {G:ah} {K K':Option ag -> ah -> Prop} (hk:∀ v G',K v G' -> K' v G') {op:Op} (h:iN cx env G K op):iN cx env G K' op:=by
 cases op <;> simp only [iN] at * <;> try exact h
 case alloc t=>
  split at h
  ·exact fun id a=>hk _ _ (h id a)
  ·exact h
 case box t x=>
  split at h
  ·exact fun id a=>hk _ _ (h id a)
  ·exact h
 case buildSlice t n ps=>
  split at h
  ·unfold bh at *
   split at h
   ·split at h
    ·split at h
     ·split at h
      ·exact ⟨h.1,fun id a=>hk _ _ (h.2 id a)⟩
      ·exact h
     ·exact h
    ·exact h
   ·exact h
  ·exact h
 case makeSlice t l c=>
  split at h
  ·unfold lH at *
   split at h
   ·split at h
    ·split at h
     ·obtain ⟨h1,h2,h3,h4,h5⟩:=h
      exact ⟨h1,h2,h3,h4,fun id a=>hk _ _ (h5 id a)⟩
     ·exact h
    ·exact h
   ·exact h
  ·exact h
 case makeMap t r=>
  cases r with
  | none=>exact fun id a=>hk _ _ (h id a)
  | some r=>exact h
 case store t a v=>
  split at h
  ·unfold wg at *
   split at h
   ·exact hk _ _ h
   ·exact h
  ·exact h
 case mapUpdate t m k v=>
  split at h
  ·exact rC (fun _=>hk _ _) h
  ·exact h
 case insert t m k v=>
  split at h
  ·exact rC (fun _=>hk _ _) h
  ·exact h
 case convert s d x=>
  split at h
  ·unfold lI at *
   split at h
   ·split at h
    ·split at h
     ·exact ⟨h.1,h.2.1,fun cap a b id c=>hk _ _ (h.2.2 cap a b id c)⟩
     ·exact h
    ·exact h
   ·exact h
  ·exact h
 case call c=>
  split at h
  ·split at h
   ·split at h
    ·exact vk (fun _ _=>hk _ _) h
    ·exact h
   ·exact h
  ·split at h
   ·split at h
    ·exact EX (fun _ _=>hk _ _) h
    ·exact h
   ·exact h
  ·split at h
   ·unfold oL at *
    split at h
    ·exact h.mono fun _ _=>hk _ _
    ·exact h
   ·exact h
  ·split at h
   ·unfold th at *
    split at h
    ·split at h
     ·exact h.mono fun _ _=>hk _ _
     ·exact h
    ·exact h
   ·exact h
  ·exact h
end Go.Esc
