/- Own work. The model's operations that leave the heap alone do what 'dres' says: the theorem. -/
import Derived.Test.YtbckpbdamfhehaaGreatDoorEF
set_option linter.unusedSimpArgs false
set_option linter.unusedVariables false
namespace Go.Esc
open Go Go.RowKit

section
variable {P : Program} {T : Tbl} (hT : TblOk P T)

theorem run_mapM_list {α β : Type} {f : α → Sem β} {g : α → β} (w : World) : ∀ (l : List α), (∀ x ∈ l, (f x).run P w = .ok (g x) w) → (l.mapM f).run P w = .ok (l.map g) w
  | [], _ => by simp
  | x :: l, h => by
    rw [List.mapM_cons]
    simp [h x (by simp), run_mapM_list w l (fun y hy => h y (by simp [hy]))]

theorem run_mapM_array {α β : Type} {f : α → Sem β} {g : α → β} (w : World) (l : Array α) (h : ∀ x ∈ l.toList, (f x).run P w = .ok (g x) w) : (l.mapM f).run P w = .ok (l.map g) w := by
  rw [Array.mapM_eq_mapM_toList]
  rw [Sem.run_map, run_mapM_list w _ h]
  simp only [Result.andThen_ok]
  congr 1
  apply Array.ext'
  simp

include hT in
theorem vbuild_sound {t : TypeId} {parts : List (Nat × AVal)} {v : AVal} (h : vbuild T t parts = some v) (w : World) :
    (Instr.build t (parts.map fun q => (q.1, cv q.2)).toArray).run P w = .ok (cv v) w := by
  unfold vbuild at h
  split at h
  · rename_i i hi
    have hty := hT t i hi
    obtain ⟨ds, hu, hd⟩ := hty.und
    split at h
    · rename_i fs zs hdesc hz
      rw [hdesc] at hd
      obtain ⟨fields, rfl, rfl⟩ := desc_struct hd
      split at h
      · rename_i hall
        split at h
        · rename_i cs hcs
          injection h with h; subst h
          let sizes : Field → Nat × Nat := fun f => (f.offset, ((T f.type).map (·.size)).getD 0)
          have hm : (fields.mapM fun f => do pure (f.offset, ← sizeOf f.type) : Sem (Array (Nat × Nat))).run P w = .ok (fields.map sizes) w := by
            refine run_mapM_array w fields fun f hf => ?_
            simp only [List.all_map, List.all_eq_true, Function.comp] at hall
            have := hall f hf
            cases hti : T f.type with
            | none => simp [hti] at this
            | some ti => simp [(hT _ ti hti).run_sizeOf, sizes, hti]
          have hpl : (fun k => (fields.map sizes)[k]?) = places T (fields.toList.map fun g => (g.type, g.offset)) := by
            funext k
            simp only [places, Array.getElem?_map, List.getElem?_map, Array.getElem?_toList]
            cases hk : fields[k]? with
            | none => simp
            | some f =>
              simp only [Option.map_some]
              simp only [List.all_map, List.all_eq_true, Function.comp] at hall
              have := hall f (by rw [← Array.getElem?_toList] at hk; exact List.mem_of_getElem? hk)
              cases hti : T f.type with
              | none => simp [hti] at this
              | some ti => simp [sizes, hti]
          have hfill := fillA_sound parts zs cs hcs
          rw [← hpl] at hfill
          simp only [Instr.build, Sem.run_bind, hty.run_zero, Result.andThen_ok, run_underlying hu, hm, hz, cv, Value.cells, hfill, Sem.run_pure]
        · cases h
      · cases h
    · rename_i n e zs hdesc hz
      have hu := hty.u hdesc (fun _ => desc_array)
      split at h
      · rename_i ie hie
        split at h
        · rename_i cs hcs
          injection h with h; subst h
          have hfill := fillA_sound parts zs cs hcs
          simp only [Instr.build, Sem.run_bind, hty.run_zero, Result.andThen_ok, run_underlying hu, (hT e ie hie).run_sizeOf, hz, cv, Value.cells, hfill, Sem.run_pure]
        · cases h
      · cases h
    · cases h
  · cases h

theorem rel_map_heap {B : Base} {G : Heap} {w : World} (hr : Rel B G w) {id : AId} {es : List (AVal × AVal)} (h : G id = some (.map es)) :
    ∃ ents clk, (getObj id.block).run P w = .ok (.map ents clk) w ∧ w.heap[id.block]? = some (.map ents clk) ∧ ents.toList.map (fun e => (e.key, e.val)) = es.map (fun p => (cv p.1, cv p.2)) := by
  obtain ⟨_, _, _, ents, clk, h1, h2⟩ := hr.obj id _ h
  exact ⟨ents, clk, by simp [getObj, Sem.run, h1], h1, h2⟩

include hT in
theorem vlen_sound {B : Base} {G : Heap} {w : World} (hr : Rel B G w) {t ty : TypeId} {x v : AVal} (h : vlen T G t x = some v) :
    (Builtin.len_ #[t] ty #[cv x]).run P w = .ok (cv v) w := by
  unfold vlen at h
  split at h
  · rename_i i hi
    have hty := hT t i hi
    split at h
    · rename_i s hdesc
      have hu := hty.u hdesc (fun _ => desc_string)
      injection h with h; subst h
      have e1 : (⟨s.toArray⟩ : ByteArray).size = s.length := by simp [ByteArray.size]
      simp [Builtin.len_, run_underlying hu, cv, goInt, e1]
    · rename_i hdesc
      have hu := hty.u hdesc (fun _ => desc_slice)
      injection h with h; subst h
      simp [Builtin.len_, run_underlying hu, cv, goInt]
    · rename_i hdesc
      have hu := hty.u hdesc (fun _ => desc_slice)
      injection h with h; subst h
      simp [Builtin.len_, run_underlying hu, cv, goInt]
    · rename_i hdesc
      have hu := hty.u hdesc (fun _ => desc_array)
      injection h with h; subst h
      simp [Builtin.len_, run_underlying hu, cv, goInt]
    · rename_i hdesc
      have hu := hty.u hdesc (fun _ => desc_map)
      injection h with h; subst h
      simp [Builtin.len_, run_underlying hu, cv, goInt]
    · rename_i id hdesc
      have hu := hty.u hdesc (fun _ => desc_map)
      split at h
      · rename_i es hes
        injection h with h; subst h
        obtain ⟨ents, clk, h1, _, h3⟩ := rel_map_heap (P := P) hr hes
        have hl := congrArg List.length h3
        simp at hl
        simp [Builtin.len_, run_underlying hu, cv, goInt, h1, hl]
      · cases h
    · cases h
  · cases h

include hT in
theorem vcap_sound {w : World} {t ty : TypeId} {x v : AVal} (h : vcap T t x = some v) :
    (Builtin.cap_ #[t] ty #[cv x]).run P w = .ok (cv v) w := by
  unfold vcap at h
  split at h
  · rename_i i hi
    have hty := hT t i hi
    split at h
    · rename_i hdesc
      have hu := hty.u hdesc (fun _ => desc_slice)
      injection h with h; subst h
      simp [Builtin.cap_, run_underlying hu, cv, goInt]
    · rename_i hdesc
      have hu := hty.u hdesc (fun _ => desc_slice)
      injection h with h; subst h
      simp [Builtin.cap_, run_underlying hu, cv, goInt]
    · cases h
  · cases h

theorem vmin2_sound {w : World} {x y v : AVal} {ts : Array TypeId} {ty : TypeId} (h : vmin2 x y = some v) : (Builtin.min_ ts ty #[cv x, cv y]).run P w = .ok (cv v) w := by
  unfold vmin2 at h
  split at h
  · injection h with h; subst h
    simp [Builtin.min_, Builtin.min2, cv]
  · cases h
theorem vmax2_sound {w : World} {x y v : AVal} {ts : Array TypeId} {ty : TypeId} (h : vmax2 x y = some v) : (Builtin.max_ ts ty #[cv x, cv y]).run P w = .ok (cv v) w := by
  unfold vmax2 at h
  split at h
  · injection h with h; subst h
    simp [Builtin.max_, Builtin.max2, cv]
  · cases h

/-! #### maps -/

theorem sameA_now {d : TypeDesc} {k e : AVal} {b : Bool} (hd : keyFits (descOf d) k = true) (h : sameA k e = some b) : Instr.sameNow d (cv k) (cv e) = some b := by
  unfold sameA at h
  split at h
  · split at h
    · rename_i hk
      injection h with h; subst h; subst hk
      cases d <;> simp [descOf, keyFits] at hd
      simp [Instr.sameNow, cv, beq_eq_decide]
    · cases h
  · injection h with h; subst h
    cases d <;> simp [descOf, keyFits] at hd
    rename_i a b
    simp only [Instr.sameNow, cv]
    rw [beq_toListBytes, toList_mk, toList_mk, beq_lists]
  · injection h with h; subst h
    cases d <;> simp [descOf, keyFits] at hd
    simp [Instr.sameNow, cv]
  · cases h

theorem findA_now {d : TypeDesc} {k : AVal} (hd : keyFits (descOf d) k = true) : ∀ (es : List (AVal × AVal)) (ents : List MapEntry) (i : Nat) (r : Option (Nat × AVal)),
    ents.map (fun e => (e.key, e.val)) = es.map (fun p => (cv p.1, cv p.2)) → findA k es i = some r →
    Instr.findNow d (cv k) ents i = some (r.map fun q => (q.1, cv q.2))
  | [], ents, i, r, he, h => by
    simp at he; subst he
    simp [findA] at h; subst h
    simp [Instr.findNow]
  | e :: es, ents, i, r, he, h => by
    cases ents with
    | nil => simp at he
    | cons x ents =>
      simp only [List.map_cons, List.cons.injEq, Prod.mk.injEq] at he
      obtain ⟨⟨h1, h2⟩, h3⟩ := he
      simp only [findA] at h
      split at h
      · rename_i hs
        injection h with h; subst h
        simp [Instr.findNow, h1, sameA_now hd hs, h2]
      · rename_i hs
        simp only [Instr.findNow, h1, sameA_now hd hs]
        exact findA_now hd es ents (i + 1) r h3 h
      · cases h

theorem checkKey_sound {t : TypeId} {i : TI} (hty : TyOk P t i) {k : AVal} (hd : keyFits i.desc k = true) (w : World) (empty : Bool) : (Instr.checkKey empty 10000 t (cv k)).run P w = .ok () w := by
  obtain ⟨ds, hu, hdd⟩ := hty.und
  rw [← hdd] at hd
  rw [show (10000 : Nat) = 9999 + 1 from rfl]
  generalize 9999 = n
  cases ds <;> simp [descOf, keyFits] at hd <;> cases k <;> simp [keyFits] at hd <;> simp [Instr.checkKey, run_underlying hu, cv]

include hT in
theorem vlookup_sound {B : Base} {G : Heap} {w : World} (hr : Rel B G w) {t : TypeId} {m k v : AVal} {ok : Bool} (h : vlookup T G t m k ok = some v) :
    (Instr.lookup t (cv m) (cv k) ok).run P w = .ok (cv v) w := by
  unfold vlookup at h
  split at h
  · rename_i i hi
    have hty := hT t i hi
    split at h
    · rename_i kt et hdesc
      have hu := hty.u hdesc (fun _ => desc_map)
      split at h
      · rename_i ki ei hki hei
        split at h
        · rename_i hkf
          split at h
          · rename_i es hes
            have htk := hT kt ki hki
            obtain ⟨dk, huk, hdk⟩ := htk.und
            have hkf' : keyFits (descOf dk) k = true := by rw [hdk]; exact hkf
            have rest : ∀ ents : Array MapEntry, ents.toList.map (fun e => (e.key, e.val)) = es.map (fun p => (cv p.1, cv p.2)) →
                (do Instr.checkKey ents.isEmpty 10000 kt (cv k)
                    let r ← Instr.findKey kt (cv k) ents.toList
                    match r with
                    | some (_, v) => do
                      let x ← pure (v, true)
                      pure (if ok = true then .tuple #[x.1, .bool x.2] else x.1)
                    | none => do
                      let z ← zeroValue et
                      let x ← pure (z, false)
                      pure (if ok = true then .tuple #[x.1, .bool x.2] else x.1) : Sem Value).run P w = .ok (cv v) w := by
              intro ents he2
              have hfind : ∀ r, findA k es 0 = some r → (Instr.findKey kt (cv k) ents.toList).run P w = .ok (r.map fun q => (q.1, cv q.2)) w := by
                intro r hrr
                simp [Instr.findKey, run_underlying huk, findA_now hkf' es ents.toList 0 r he2 hrr]
              simp only [Sem.run_bind, Result.andThen_ok, checkKey_sound htk hkf]
              split at h
              · rename_i j v' hf
                injection h with h; subst h
                rw [hfind _ hf]
                cases ok <;> simp [cv, cvs]
              · rename_i hf
                injection h with h; subst h
                rw [hfind _ hf]
                cases ok <;> simp [cv, cvs, (hT et ei hei).run_zero]
              · cases h
            unfold mapEs at hes
            split at hes
            · injection hes with hes; subst hes
              simp only [Instr.lookup, Sem.run_bind, run_underlying hu, Result.andThen_ok, cv, Sem.run_pure]
              have := rest #[] (by simp)
              simp only [Sem.run_bind] at this
              exact this
            · split at hes
              · rename_i id es' hid
                injection hes with hes; subst hes
                obtain ⟨ents, clk, h1, _, h3⟩ := rel_map_heap (P := P) hr hid
                simp only [Instr.lookup, Sem.run_bind, run_underlying hu, Result.andThen_ok, cv, Sem.run_pure, h1]
                have := rest ents h3
                simp only [Sem.run_bind] at this
                exact this
              · cases hes
            · cases hes
          · cases h
        · cases h
      · cases h
    · cases h
  · cases h

/-! #### the theorem -/

theorem evs_sound {env : Env} {a : Act} (he : EnvOk env a.tmps) : ∀ {xs : List Operand} {vs : List AVal}, evs env xs = some vs → xs.map a.eval = vs.map cv
  | [], vs, h => by simp [evs] at h; subst h; rfl
  | x :: xs, vs, h => by
    simp only [evs] at h
    split at h
    · rename_i v vs' h1 h2
      injection h with h; subst h
      simp [ev_sound he h1, evs_sound he h2]
    · cases h

theorem evs_array {env : Env} {a : Act} (he : EnvOk env a.tmps) {xs : Array Operand} {vs : List AVal} (h : evs env xs.toList = some vs) : xs.map a.eval = (cvs vs).toArray := by
  apply Array.ext'
  rw [Array.toList_map, evs_sound he h, cvs_eq]

theorem evo_sound {env : Env} {a : Act} (he : EnvOk env a.tmps) {x : Option Operand} {v : Option AVal} (h : evo env x = some v) : x.map a.eval = v.map cv := by
  cases x with
  | none => simp [evo] at h; subst h; rfl
  | some x =>
    simp only [evo] at h
    split at h
    · rename_i u hu
      injection h with h; subst h
      simp [ev_sound he hu]
    · cases h

theorem evp_sound {env : Env} {a : Act} (he : EnvOk env a.tmps) : ∀ {xs : List (Nat × Operand)} {vs : List (Nat × AVal)}, evp env xs = some vs → xs.map (fun q => (q.1, a.eval q.2)) = vs.map fun q => (q.1, cv q.2)
  | [], vs, h => by simp [evp] at h; subst h; rfl
  | (k, x) :: xs, vs, h => by
    simp only [evp] at h
    split at h
    · rename_i v vs' h1 h2
      injection h with h; subst h
      simp [ev_sound he h1, evp_sound he h2]
    · cases h

theorem vun_sound {op : UnOp} {x v : AVal} (h : vun op x = some v) (w : World) : (Op.unary op (cv x)).run P w = .ok (cv v) w := by
  unfold vun at h
  split at h <;> first
    | (injection h with h; subst h; simp [Op.unary, Op.intArith, Op.intBits, cv]; done)
    | cases h

theorem vshift_sound {op : BinOp} {t : TypeId} {k k' : IntKind} {a b : Int} {v : AVal} (h : vshift op k a b = some v) (w : World) (ho : op = .shl ∨ op = .shr) : (binOp op t (.int k a) (.int k' b)).run P w = .ok (cv v) w := by
  unfold vshift at h
  by_cases hb : b < 0
  · rw [if_pos hb] at h; cases h
  · rw [if_neg hb] at h
    rcases ho with rfl | rfl
    · injection h with h; subst h
      simp [binOp, Op.shift, hb, cv]
    · injection h with h; subst h
      simp [binOp, Op.shift, hb, cv]

include hT in
theorem vbin_sound {op : BinOp} {t : TypeId} {x y v : AVal} (h : vbin T op t x y = some v) (w : World) : (binOp op t (cv x) (cv y)).run P w = .ok (cv v) w := by
  unfold vbin at h
  split at h
  · rename_i k a k' b
    split at h
    · exact vshift_sound h w (.inl rfl)
    · exact vshift_sound h w (.inr rfl)
    · rename_i h1 h2
      split at h
      · rename_i hk
        subst hk
        exact vint_sound w h (fun e => h1 e) (fun e => h2 e)
      · cases h
  · exact vstr_sound w h
  · rename_i hni hns
    split at h
    · split at h
      · rename_i b hb
        injection h with h; subst h
        have := veqD_sound (P := P) hT 9 _ _ _ _ hb 9991 w
        have e : (binOp .eql t (cv x) (cv y)) = (do pure (.bool (← Op.equal t (cv x) (cv y)))) := by
          cases x <;> cases y <;> first
            | rfl
            | exact (hni _ _ _ _ rfl rfl).elim
            | exact (hns _ _ rfl rfl).elim
        rw [e]
        simp [Op.equal, Op.maxDepth, this, cv]
      · cases h
    · split at h
      · rename_i b hb
        injection h with h; subst h
        have := veqD_sound (P := P) hT 9 _ _ _ _ hb 9991 w
        have e : (binOp .neq t (cv x) (cv y)) = (do pure (.bool (!(← Op.equal t (cv x) (cv y))))) := by
          cases x <;> cases y <;> first
            | rfl
            | exact (hni _ _ _ _ rfl rfl).elim
            | exact (hns _ _ rfl rfl).elim
        rw [e]
        simp [Op.equal, Op.maxDepth, this, cv]
      · cases h
    · cases h

theorem veqD_agg {t : TypeId} {xs ys : List AVal} {b : Bool} {d : Nat} (hT : TblOk P T) (h : veqD T d t (.agg xs) (.agg ys) = some b) : P.eqGuardType P.depth t = false := by
  cases d with
  | zero => simp [veqD] at h
  | succ d =>
    simp only [veqD] at h
    split at h
    · cases h
    · rename_i i hi
      have hty := hT t i hi
      split at h <;> first
        | (rename_i hdesc _ _; exact (hty.agg (by rw [hdesc]; rfl)).1)
        | simp_all

theorem eqGuard_sound {op : BinOp} {t : TypeId} {x y : Operand} {a b v : AVal} (hT : TblOk P T) (hg : eqOk T op t x y = true) (h : vbin T op t a b = some v) (w : World) : (eqGuard op t x y (cv a) (cv b)).run P w = .ok () w := by
  by_cases ho : op = .eql ∨ op = .neq
  · have hnil : notIface T t = true → a = .nilIface → b = .nilIface → False := by
      intro hn ha hb
      subst ha; subst hb
      have : veqD T 9 t .nilIface .nilIface = none := by
        simp only [veqD, notIface] at hn ⊢
        split
        · rfl
        · rename_i i hi
          rw [hi] at hn
          cases hd : i.desc <;> simp_all
      rcases ho with rfl | rfl <;> simp [vbin, this] at h
    rcases ho with rfl | rfl
    all_goals
      cases a <;> cases b <;> first
        | (simp [eqGuard, cv]; done)
        | (cases hx : isConst x <;> cases hy : isConst y <;> simp only [eqOk, hx, hy, Bool.false_or, Bool.or_false, Bool.true_or, Bool.or_true] at hg <;>
            first
              | exact (hnil hg rfl rfl).elim
              | (cases x <;> cases y <;> simp [isConst] at hx hy <;> simp [eqGuard, cv]; done))
        | (have hq : P.eqGuardType P.depth t = false := by
             simp only [vbin] at h
             split at h
             · exact veqD_agg hT ‹_›
             · cases h
           simp [eqGuard, cv, hq])
  · have : eqGuard op t x y (cv a) (cv b) = pure () := by
      cases op <;> first | rfl | exact absurd (.inl rfl) ho | exact absurd (.inr rfl) ho
    rw [this]; rfl

end
end Go.Esc
