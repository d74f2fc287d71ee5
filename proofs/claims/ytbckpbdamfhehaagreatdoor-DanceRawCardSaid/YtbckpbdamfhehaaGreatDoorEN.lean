/- Own work. Functions: a contract out of 'awp' of the body. -/
import Derived.Test.YtbckpbdamfhehaaGreatDoorEM
set_option linter.unusedSimpArgs false
set_option linter.unusedVariables false
namespace Go.Esc
open Go Go.RowKit

def resW (T : Tbl) (env : Env) (G : Heap) : List ResultVar → (List AVal → Prop) → Prop
  | [], K => K []
  | .tmp t :: rs, K => wv (env t) fun v => resW T env G rs fun vs => K (v :: vs)
  | .cell a t :: rs, K => match env a with
    | some p => wv (vload T G t p) fun v => resW T env G rs fun vs => K (v :: vs)
    | none => False

def retV : List AVal → AVal
  | [v] => v
  | vs => .tuple vs

def bodyQ (T : Tbl) (rs : List ResultVar) (Q : AVal → Heap → Prop) : Exit → Env → Heap → Prop
  | .normal, env, G => resW T env G rs fun vs => Q (retV vs) G
  | .ret, env, G => resW T env G rs fun vs => Q (retV vs) G
  | _, _, _ => False

def envL (args : List AVal) : Env := fun t => args[t]?

section
variable {cx : Cx} (hcx : CxOk cx) {B : Base}

include hcx in
theorem resW_sound {G : Heap} {w : World} {env : Env} {tmps : Array Value} (he : EnvOk env tmps) (hr : Rel B G w) : ∀ {rs : List ResultVar} {K : List AVal → Prop}, resW cx.T env G rs K →
    ∃ vs, K vs ∧ ∀ f : ResultVar → Sem Value, (∀ t, f (.tmp t) = pure (tmps.getD t undef)) → (∀ a t, f (.cell a t) = do loadVar t (← asAddr (tmps.getD a undef))) → (rs.mapM f).run cx.P w = .ok (vs.map cv) w
  | [], K, h => ⟨[], h, fun f _ _ => by simp⟩
  | r :: rs, K, h => by
    cases r with
    | tmp t =>
      simp only [resW] at h
      unfold wv at h
      split at h
      · rename_i v hv
        obtain ⟨vs, h2, h1⟩ := resW_sound he hr h
        have ht : tmps.getD t undef = cv v := by simp [he t v hv]
        exact ⟨v :: vs, h2, fun f hf1 hf2 => by rw [List.mapM_cons]; simp only [Sem.run_bind, hf1, ht, Sem.run_pure, Result.andThen_ok, h1 f hf1 hf2, List.map_cons]⟩
      · exact h.elim
    | cell a t =>
      simp only [resW] at h
      split at h
      · rename_i p hp
        unfold wv at h
        split at h
        · rename_i v hv
          obtain ⟨vs, h2, h1⟩ := resW_sound he hr h
          have hl := vload_sound hcx.tbl hr hv
          have hpa : tmps.getD a undef = cv p := by simp [he a p hp]
          cases p with
          | ptr id q off =>
            simp only [cv, Instr.loadAt, Instr.sureAddr, Sem.run_bind, Sem.run_pure, Result.andThen_ok] at hl
            exact ⟨v :: vs, h2, fun f hf1 hf2 => by rw [List.mapM_cons]; simp only [Sem.run_bind, hf2, hpa, cv, asAddr, Sem.run_pure, Result.andThen_ok, hl, h1 f hf1 hf2, List.map_cons]⟩
          | _ => simp [vload, vsub] at hv
        · exact h.elim
      · exact h.elim

include hcx in
theorem bodyQ_sound {n : Nat} {fn : Func} {Q : AVal → Heap → Prop} {e : Exit} {a : Act} {w : World} (h : lift B n (bodyQ cx.T fn.results.toList Q) e a w) :
    bodyPost cx.P fn (fun e w' => ∃ u, e = .returned u ∧ ∃ v G', u = cv v ∧ Rel B G' w' ∧ Q v G') e a w := by
  have key : ∀ env G, a.defers = [] → EnvOk env a.tmps → Rel B G w → (resW cx.T env G fn.results.toList fun vs => Q (retV vs) G) →
      a.defers = [] ∧ ∃ u, (results fn a.tmps).run cx.P w = .ok u w ∧ ∃ u', Ending.returned u = .returned u' ∧ ∃ v G', u' = cv v ∧ Rel B G' w ∧ Q v G' := by
    intro env G h1 he hr hq
    refine ⟨h1, ?_⟩
    obtain ⟨vs, hq, hvs⟩ := resW_sound hcx he hr hq
    have hrun : (results fn a.tmps).run cx.P w = .ok (if h : (vs.map cv).length = 1 then (vs.map cv)[0] else .tuple (vs.map cv).toArray) w := by
      unfold results
      rw [Array.mapM_eq_mapM_toList]
      rw [Sem.run_bind, Sem.run_map, hvs _ (fun _ => rfl) (fun _ _ => rfl)]
      simp
    refine ⟨_, hrun, _, rfl, retV vs, G, ?_, hr, hq⟩
    cases vs with
    | nil => simp [retV, cv, cvs_eq]
    | cons v vs =>
      cases vs with
      | nil => simp [retV]
      | cons u us => simp [retV, cv, cvs_eq]
  cases e with
  | normal => obtain ⟨h1, h2, env, G, he, hr, hq⟩ := h; exact key env G h1 he hr hq
  | ret => obtain ⟨h1, h2, env, G, he, hr, hq⟩ := h; exact key env G h1 he hr hq
  | exit id => obtain ⟨h1, h2, env, G, he, hr, hq⟩ := h; exact hq.elim
  | goto l => obtain ⟨h1, h2, env, G, he, hr, hq⟩ := h; exact hq.elim
  | panic c => exact h.elim
  | outgrown => exact h.elim

include hcx in
/-- A FUNCTION's CONTRACT. -/
theorem ACalls_of_awp {f : FuncId} {fn : Func} {c : Code} {an : Ann} (hf : cx.P.funcs[f]? = some fn) (hb : fn.body = some c) (hname : (fn.name == "runtime.NumGoroutine") = false)
    (hdst : dstOk fn.ntmps c = true) (hdr : drawsOk cx c an) {args : List AVal} (hlen : args.length ≤ fn.ntmps) {G : Heap} {Q : AVal → Heap → Prop}
    (h : awp cx c an (bodyQ cx.T fn.results.toList Q) (envL args) G) : ACalls cx.P f args G Q := by
  intro B w hr
  have hcall : (callFunc f (cvs args).toArray).run cx.P w = .ok (.enter f (cvs args).toArray) w := by
    have hn : (fn.name == "runtime.NumGoroutine") = false := hname
    simp [callFunc, hf, hn, hb]
    simp at hn
    simp [hn]
  unfold CallsX
  rw [hcall]
  refine calls_of_wp hf hb ?_
  have hst : St B fn.ntmps (awp cx c an (bodyQ cx.T fn.results.toList Q)) { tmps := (cvs args).toArray ++ Array.replicate (fn.ntmps - (cvs args).toArray.size) undef, defers := [] } w := by
    refine ⟨rfl, ?_, envL args, G, fun t v ht => ?_, hr, h⟩
    · simp [cvs_eq]; omega
    · have hlt := (List.getElem?_eq_some_iff.1 ht).1
      have hv := (List.getElem?_eq_some_iff.1 ht).2
      simp only [cvs_eq]
      rw [Array.getElem?_append_left (by simpa using hlt)]
      simp [hlt, hv]
  exact wp_mono (awp_sound hcx c an _ _ w hdst hdr hst) fun e a w q => bodyQ_sound hcx q

end
end Go.Esc
