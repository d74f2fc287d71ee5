/- Own work. What operations read: of the slots, of the heap; what they ask of what comes behind them. -/
import Derived.Test.YtbckpbdamfhehaaGreatDoorEN
set_option linter.unusedSimpArgs false
set_option linter.unusedVariables false
namespace Go.Esc
open Go Go.RowKit

/-! ### Of the heap -/

def readsG (T : Tbl) : Op → Bool
  | .load _ _ => true
  | .lookup _ _ _ _ => true
  | .convert _ d _ => match T d with
    | some i => match i.desc with
      | .int _ => false
      | _ => true
    | none => true
  | .call c => match c.callee with
    | .builtin .len => match c.argTypes.toList with
      | [t] => match T t with
        | some i => match i.desc with
          | .map _ _ => true
          | _ => false
        | none => true
      | _ => true
    | _ => false
  | _ => false

theorem dres_noread {T : Tbl} {env : Env} {G G' : Heap} {op : Op} (h : readsG T op = false) : dres T env G op = dres T env G' op := by
  cases op <;> try rfl
  case load => simp [readsG] at h
  case lookup => simp [readsG] at h
  case convert s d x =>
    simp only [readsG] at h
    simp only [dres]
    cases ev env x with
    | none => rfl
    | some v =>
      simp only [vconv]
      cases hs : T s with
      | none => rfl
      | some si =>
        cases hd : T d with
        | none => rfl
        | some di =>
          simp only [hd] at h
          split at h
          · rename_i k hk
            simp only [hk]
            cases v <;> rfl
          · cases h
  case call c =>
    simp only [readsG] at h
    simp only [dres]
    split at h
    · rename_i hc
      simp only [hc]
      split at h
      · rename_i t ht
        simp only [ht]
        cases ha : c.args.toList with
        | nil => rfl
        | cons x xs =>
          cases xs with
          | cons y ys => rfl
          | nil =>
            simp only
            cases ev env x with
            | none => rfl
            | some v =>
              simp only [vlen]
              cases hT : T t with
              | none => rfl
              | some i =>
                simp only [hT] at h
                split at h
                · cases h
                · rename_i hk
                  cases hd : i.desc <;> first | exact absurd hd (hk _ _) | (simp only [hd] <;> (cases v <;> rfl))
      · cases h
    · rename_i hc
      split <;> first | rfl | exact absurd ‹_› hc

theorem vsub_le {G G' : Heap} (h : G.le G') {a v : AVal} (hv : vsub G a = some v) : vsub G' a = some v := by
  cases a <;> try (simp [vsub] at hv)
  rename_i id p off
  simp only [vsub]
  cases hg : G id with
  | none => simp [hg] at hv
  | some o => rw [h id o hg]; simpa [hg] using hv

theorem vload_le {T : Tbl} {G G' : Heap} (h : G.le G') {t : TypeId} {a v : AVal} (hv : vload T G t a = some v) : vload T G' t a = some v := by
  unfold vload at *
  cases hs : vsub G a with
  | none => simp [hs] at hv
  | some u => rw [vsub_le h hs]; simpa [hs] using hv

theorem arrAt_le {G G' : Heap} (h : G.le G') {n : Nat} {id : AId} {p : List Nat} {st off : Nat} {v : List AVal} (hv : arrAt G n id p st off = some v) : arrAt G' n id p st off = some v := by
  unfold arrAt at *
  cases hs : vsub G (.ptr id p (off - st * n)) with
  | none => simp [hs] at hv
  | some u => rw [vsub_le h hs]; simpa [hs] using hv

theorem selems_le {G G' : Heap} (h : G.le G') {n : Nat} {x : AVal} {v : List AVal} (hv : selems G n x = some v) : selems G' n x = some v := by
  cases x <;> try (first | exact hv | (simp [selems] at hv; done))
  rename_i id p st off len cap
  simp only [selems] at *
  cases hs : arrAt G n id p st off with
  | none => simp [hs] at hv
  | some u => rw [arrAt_le h hs]; simpa [hs] using hv

theorem mapEs_le {G G' : Heap} (h : G.le G') {x : AVal} {v : List (AVal × AVal)} (hv : mapEs G x = some v) : mapEs G' x = some v := by
  cases x <;> try (first | exact hv | (simp [mapEs] at hv; done))
  rename_i id
  simp only [mapEs] at *
  cases hs : G id with
  | none => simp [hs] at hv
  | some u => rw [h _ _ hs]; simpa [hs] using hv

theorem vconv_le {T : Tbl} {G G' : Heap} (h : G.le G') {s d : TypeId} {x v : AVal} (hv : vconv T G s d x = some v) : vconv T G' s d x = some v := by
  unfold vconv at *
  split at hv
  · rename_i si di hs hd
    (try simp only [hs, hd])
    split at hv
    · rename_i hdd; (try simp only [hdd]); exact hv
    · rename_i hdd; (try simp only [hdd]); exact hv
    · rename_i hnot hdd
      (try simp only [hdd])
      split at hv
      · rename_i e he
        split at hv
        · rename_i ie hie
          split at hv
          · rename_i hk
            split at hv
            · (try simp only [he, hie, hk]); exact hv
            · rename_i id p st off len cap
              (try simp only [he, hie, hk])
              cases hse : selems G 1 (.slice id p st off len cap) with
              | none => simp [hse] at hv
              | some vs => rw [selems_le h hse]; simpa [hse] using hv
            · cases hv
          · cases hv
        · cases hv
      · cases hv
    · cases hv
  · cases hv

theorem vlen_le {T : Tbl} {G G' : Heap} (h : G.le G') {t : TypeId} {x v : AVal} (hv : vlen T G t x = some v) : vlen T G' t x = some v := by
  unfold vlen at *
  split at hv
  · rename_i i hi
    (try simp only [hi])
    split at hv
    case _ hd => (try simp only [hd]); exact hv
    case _ hd => (try simp only [hd]); exact hv
    case _ hd => (try simp only [hd]); exact hv
    case _ hd => (try simp only [hd]); exact hv
    case _ hd => (try simp only [hd]); exact hv
    case _ id hd =>
      (try simp only [hd])
      cases hs : G id with
      | none => simp [hs] at hv
      | some u => rw [h _ _ hs]; simpa [hs] using hv
    · cases hv
  · cases hv

theorem vlookup_le {T : Tbl} {G G' : Heap} (h : G.le G') {t : TypeId} {m k v : AVal} {ok : Bool} (hv : vlookup T G t m k ok = some v) : vlookup T G' t m k ok = some v := by
  unfold vlookup at *
  split at hv
  · rename_i i hi
    (try simp only [hi])
    split at hv
    · rename_i kt et hd
      (try simp only [hd])
      split at hv
      · rename_i ki ei hk he
        (try simp only [hk, he])
        split at hv
        · rename_i hf
          (try (try simp only [hf, if_true]))
          cases hs : mapEs G m with
          | none => simp [hs] at hv
          | some es => rw [mapEs_le h hs]; simpa [hs] using hv
        · cases hv
      · cases hv
    · cases hv
  · cases hv

theorem dres_le {T : Tbl} {env : Env} {G G' : Heap} (h : G.le G') {op : Op} {v : AVal} (hv : dres T env G op = some v) : dres T env G' op = some v := by
  cases hr : readsG T op with
  | false => rw [← dres_noread (G := G) hr]; exact hv
  | true =>
    cases op <;> try (simp [readsG] at hr; done)
    case load t x =>
      simp only [dres] at *
      split at hv
      · exact vload_le h hv
      · cases hv
    case lookup t m k ok =>
      simp only [dres] at *
      split at hv
      · exact vlookup_le h hv
      · cases hv
    case convert s d x =>
      simp only [dres] at *
      split at hv
      · exact vconv_le h hv
      · cases hv
    case call c =>
      simp only [dres] at *
      split at hv
      · split at hv
        · split at hv
          · exact vlen_le h hv
          · cases hv
        · cases hv
      all_goals exact hv

theorem recheck_iff {T : Tbl} {G : Heap} {chk : List Nat} : ∀ {ld : List Ld}, recheck T G chk ld ↔ ∀ e ∈ ld, memN e.idx chk = true → e.val T G = some e.v
  | [] => by simp [recheck]
  | e :: ld => by
    unfold recheck
    cases h : memN e.idx chk with
    | true => simp [h, recheck_iff (ld := ld)]
    | false => simp [h, recheck_iff (ld := ld)]

theorem recheck_nil {T : Tbl} {G : Heap} {ld : List Ld} : recheck T G [] ld := recheck_iff.2 fun e _ h => by simp [memN] at h

theorem Ld.val_le {T : Tbl} {G G' : Heap} (h : G.le G') {e : Ld} {v : AVal} (hv : e.val T G = some v) : e.val T G' = some v := by
  unfold Ld.val at *
  cases hs : e.s with
  | none => rw [hs] at hv; exact vload_le h hv
  | some s => rw [hs] at hv; exact vconv_le h hv

theorem recheck_le {T : Tbl} {G G' : Heap} (h : G.le G') {chk : List Nat} {ld : List Ld} (hr : recheck T G chk ld) : recheck T G' chk ld :=
  recheck_iff.2 fun e he hm => Ld.val_le h (recheck_iff.1 hr e he hm)

/-! ### Of the slots -/

theorem evs_congr {env env' : Env} : ∀ {l : List Operand}, (∀ x ∈ l, ev env x = ev env' x) → evs env l = evs env' l
  | [], _ => rfl
  | x :: l, h => by simp only [evs, h x (by simp), evs_congr (l := l) (fun y hy => h y (by simp [hy]))]

theorem evp_congr {env env' : Env} : ∀ {l : List (Nat × Operand)}, (∀ x ∈ l, ev env x.2 = ev env' x.2) → evp env l = evp env' l
  | [], _ => rfl
  | (k, x) :: l, h => by simp only [evp, h (k, x) (by simp), evp_congr (l := l) (fun y hy => h y (by simp [hy]))]

theorem evo_congr {env env' : Env} {o : Option Operand} (h : ∀ x, o = some x → ev env x = ev env' x) : evo env o = evo env' o := by
  cases o with
  | none => rfl
  | some x => simp only [evo, h x rfl]

theorem dres_congr {T : Tbl} {env env' : Env} {G : Heap} {op : Op} (h : ∀ x ∈ op.operands.toList, ev env x = ev env' x) : dres T env G op = dres T env' G op := by
  cases op <;> try rfl
  case move x => simp only [dres, h x (by simp [Op.operands])]
  case assign x => simp only [dres, h x (by simp [Op.operands])]
  case pick c a b => simp only [dres, h c (by simp [Op.operands]), h a (by simp [Op.operands]), h b (by simp [Op.operands])]
  case load t x => simp only [dres, h x (by simp [Op.operands])]
  case nilCheck x => simp only [dres, h x (by simp [Op.operands])]
  case binOp op t x y z => simp only [dres, h x (by simp [Op.operands]), h y (by simp [Op.operands])]
  case unOp op t x => simp only [dres, h x (by simp [Op.operands])]
  case convert s d x => simp only [dres, h x (by simp [Op.operands])]
  case makeInterface t x => simp only [dres, h x (by simp [Op.operands])]
  case makeFunc fn a b => simp only [dres, evs_congr (l := a.toList) (fun x hx => h x (by simp [Op.operands] at hx ⊢; exact .inl hx)), evs_congr (l := b.toList) (fun x hx => h x (by simp [Op.operands] at hx ⊢; exact .inr hx))]
  case slice t x l hh m =>
    simp only [dres, h x (by simp [Op.operands]), evo_congr (o := l) (fun y hy => h y (by subst hy; simp [Op.operands])), evo_congr (o := hh) (fun y hy => h y (by subst hy; simp [Op.operands])),
      evo_congr (o := m) (fun y hy => h y (by subst hy; simp [Op.operands]))]
  case fieldAddr s x f => simp only [dres, h x (by simp [Op.operands])]
  case field s x f => simp only [dres, h x (by simp [Op.operands])]
  case indexAddr t x i => simp only [dres, h x (by simp [Op.operands]), h i (by simp [Op.operands])]
  case index t x i => simp only [dres, h x (by simp [Op.operands]), h i (by simp [Op.operands])]
  case extract x k => simp only [dres, h x (by simp [Op.operands])]
  case lookup t m k ok => simp only [dres, h m (by simp [Op.operands]), h k (by simp [Op.operands])]
  case build t ps => simp only [dres, evp_congr (l := ps.toList) (fun x hx => h x.2 (by simp [Op.operands]; exact ⟨_, by simpa using hx⟩))]
  case call c =>
    have ha : ∀ x ∈ c.args.toList, ev env x = ev env' x := fun x hx => h x (by simp [Op.operands, Call.operands] at hx ⊢; exact .inr hx)
    simp only [dres]
    split
    all_goals try rfl
    · split
      · rename_i x t hx ht
        rw [ha x (by simp [hx])]
      · rfl
    · split
      · rename_i x t hx ht
        rw [ha x (by simp [hx])]
      · rfl
    · split
      · rename_i x y hx
        rw [ha x (by simp [hx]), ha y (by simp [hx])]
      · rfl
    · split
      · rename_i x y hx
        rw [ha x (by simp [hx]), ha y (by simp [hx])]
      · rfl

theorem awpE_congr {cx : Cx} {env env' : Env} {G : Heap} {K : Option AVal → Heap → Prop} {op : Op} (h : ∀ x ∈ op.operands.toList, ev env x = ev env' x) : awpE cx env G K op = awpE cx env' G K op := by
  cases op <;> try rfl
  case box t x => simp only [awpE, h x (by simp [Op.operands])]
  case buildSlice t n ps => simp only [awpE, evp_congr (l := ps.toList) (fun x hx => h x.2 (by simp [Op.operands]; exact ⟨_, by simpa using hx⟩))]
  case makeSlice t l c => simp only [awpE, h l (by simp [Op.operands]), h c (by simp [Op.operands])]
  case makeMap t r => cases r <;> rfl
  case store t a v => simp only [awpE, h a (by simp [Op.operands]), h v (by simp [Op.operands])]
  case mapUpdate t m k v => simp only [awpE, h m (by simp [Op.operands]), h k (by simp [Op.operands]), h v (by simp [Op.operands])]
  case insert t m k v => simp only [awpE, h m (by simp [Op.operands]), h k (by simp [Op.operands]), h v (by simp [Op.operands])]
  case convert s d x => simp only [awpE, h x (by simp [Op.operands])]
  case call c =>
    have ha : ∀ x ∈ c.args.toList, ev env x = ev env' x := fun x hx => h x (by simp [Op.operands, Call.operands] at hx ⊢; exact .inr hx)
    simp only [awpE]
    split
    · split
      · rename_i s x ts tx hs ht
        rw [ha s (by simp [hs]), ha x (by simp [hs])]
      · rfl
    · split
      · rename_i s x ts tx hs ht
        rw [ha s (by simp [hs]), ha x (by simp [hs])]
      · rfl
    · rename_i f hf
      rw [h f (by simp [Op.operands, Call.operands, hf]), evs_congr ha]
    · rename_i r m hf
      rw [h r (by simp [Op.operands, Call.operands, hf]), evs_congr ha]
    · rfl

theorem ev_put {env : Env} {d : Option Nat} {v : Option AVal} {x : Operand} (h : ∀ t, d = some t → x ≠ .tmp t) : ev (env.put d v) x = ev env x := by
  cases d with
  | none => rfl
  | some t =>
    cases x <;> try rfl
    rename_i y
    have hne : y ≠ t := fun e => h t rfl (by rw [e])
    simp only [ev, Env.put]
    cases hb : Nat.beq y t with
    | true => exact absurd (Nat.eq_of_beq_eq_true hb) hne
    | false => rfl

theorem put_comm {env : Env} {d e : Option Nat} {u v : Option AVal} (h : ∀ t, d = some t → e ≠ some t) : (env.put d u).put e v = (env.put e v).put d u := by
  cases d with
  | none => rfl
  | some s =>
    cases e with
    | none => rfl
    | some t =>
      have hne : s ≠ t := fun e => h s rfl (by rw [e])
      funext x
      simp only [Env.put]
      cases h1 : Nat.beq x s with
      | true =>
        cases h2 : Nat.beq x t with
        | true => exact absurd ((Nat.eq_of_beq_eq_true h1).symm.trans (Nat.eq_of_beq_eq_true h2)) hne
        | false => simp [h1, h2]
      | false => cases h2 : Nat.beq x t <;> simp [h1, h2]

theorem put_self {env : Env} {t : Nat} {v : AVal} (h : env t = some v) : env.put (some t) (some v) = env := by
  funext x
  simp only [Env.put]
  cases hb : Nat.beq x t with
  | true => rw [Nat.eq_of_beq_eq_true hb, h]; rfl
  | false => rfl

/-! ### Of what comes behind -/

theorem grow_mono {i : TI} {G : Heap} {olds vs : List AVal} {K K' : AVal → Heap → Prop} (hk : ∀ v G', K v G' → K' v G') (h : grow i G olds vs K) : grow i G olds vs K' :=
  ⟨h.1, h.2.1, fun id cap a b c => hk _ _ (h.2.2 id cap a b c)⟩

theorem lay_mono {i : TI} {G : Heap} {id : AId} {p : List Nat} {st off at_ : Nat} {vs : List AVal} {K K' : Heap → Prop} (hk : ∀ G', K G' → K' G') (h : lay i G id p st off at_ vs K) : lay i G id p st off at_ vs K' := by
  cases vs with
  | nil => exact hk _ h
  | cons v vs =>
    simp only [lay] at *
    split at h
    · obtain ⟨h1, h2, h3, h4⟩ := h
      refine ⟨h1, h2, h3, ?_⟩
      split at h4
      · exact hk _ h4
      · exact h4
    · exact h

theorem aAppend_mono {T : Tbl} {G : Heap} {ts tx : TypeId} {s x : AVal} {K K' : AVal → Heap → Prop} (hk : ∀ v G', K v G' → K' v G') (h : aAppend T G ts tx s x K) : aAppend T G ts tx s x K' := by
  replace h := h.out
  refine ⟨?_⟩
  unfold aAppend0 at *
  split at h
  · split at h
    · split at h
      · refine ⟨h.1, ?_⟩
        have h := h.2
        split at h
        · split at h
          · split at h
            · exact hk _ _ h
            · exact grow_mono hk h
          · refine ⟨fun a => lay_mono (fun _ => hk _ _) (h.1 a), fun a => ?_⟩
            have h := h.2 a
            split at h
            · exact grow_mono hk h
            · exact h
          · exact h
        · exact h
      · exact h
    · exact h
  · exact h

theorem aCopy_mono {T : Tbl} {G : Heap} {td : TypeId} {d x : AVal} {K K' : AVal → Heap → Prop} (hk : ∀ v G', K v G' → K' v G') (h : aCopy T G td d x K) : aCopy T G td d x K' := by
  unfold aCopy at *
  split at h
  · split at h
    · split at h
      · split at h
        · split at h
          · exact hk _ _ h
          · exact lay_mono (fun _ => hk _ _) h
          · exact h
        · exact h
      · exact h
    · exact h
  · exact h

theorem aMapUpdate_mono {T : Tbl} {G : Heap} {t : TypeId} {m k v : AVal} {K K' : Heap → Prop} (hk : ∀ G', K G' → K' G') (h : aMapUpdate T G t m k v K) : aMapUpdate T G t m k v K' := by
  unfold aMapUpdate at *
  split at h
  · split at h
    · split at h
      · refine ⟨h.1, ?_⟩
        have h := h.2
        split at h
        · split at h
          · split at h
            · exact hk _ h
            · exact hk _ h
            · exact h
          · exact h
        · exact h
      · exact h
    · exact h
  · exact h

theorem awpE_mono {cx : Cx} {env : Env} {G : Heap} {K K' : Option AVal → Heap → Prop} (hk : ∀ v G', K v G' → K' v G') {op : Op} (h : awpE cx env G K op) : awpE cx env G K' op := by
  cases op <;> simp only [awpE] at * <;> try exact h
  case alloc t =>
    split at h
    · exact fun id a => hk _ _ (h id a)
    · exact h
  case box t x =>
    split at h
    · exact fun id a => hk _ _ (h id a)
    · exact h
  case buildSlice t n ps =>
    split at h
    · unfold aBuildSlice at *
      split at h
      · split at h
        · split at h
          · split at h
            · exact ⟨h.1, fun id a => hk _ _ (h.2 id a)⟩
            · exact h
          · exact h
        · exact h
      · exact h
    · exact h
  case makeSlice t l c =>
    split at h
    · unfold aMakeSlice at *
      split at h
      · split at h
        · split at h
          · obtain ⟨h1, h2, h3, h4, h5⟩ := h
            exact ⟨h1, h2, h3, h4, fun id a => hk _ _ (h5 id a)⟩
          · exact h
        · exact h
      · exact h
    · exact h
  case makeMap t r =>
    cases r with
    | none => exact fun id a => hk _ _ (h id a)
    | some r => exact h
  case store t a v =>
    split at h
    · unfold wg at *
      split at h
      · exact hk _ _ h
      · exact h
    · exact h
  case mapUpdate t m k v =>
    split at h
    · exact aMapUpdate_mono (fun _ => hk _ _) h
    · exact h
  case insert t m k v =>
    split at h
    · exact aMapUpdate_mono (fun _ => hk _ _) h
    · exact h
  case convert s d x =>
    split at h
    · unfold aConvBytes at *
      split at h
      · split at h
        · split at h
          · exact ⟨h.1, h.2.1, fun cap a b id c => hk _ _ (h.2.2 cap a b id c)⟩
          · exact h
        · exact h
      · exact h
    · exact h
  case call c =>
    split at h
    · split at h
      · split at h
        · exact aAppend_mono (fun _ _ => hk _ _) h
        · exact h
      · exact h
    · split at h
      · split at h
        · exact aCopy_mono (fun _ _ => hk _ _) h
        · exact h
      · exact h
    · split at h
      · unfold aCallV at *
        split at h
        · exact h.mono fun _ _ => hk _ _
        · exact h
      · exact h
    · split at h
      · unfold aInvoke at *
        split at h
        · split at h
          · exact h.mono fun _ _ => hk _ _
          · exact h
        · exact h
      · exact h
    · exact h

end Go.Esc
