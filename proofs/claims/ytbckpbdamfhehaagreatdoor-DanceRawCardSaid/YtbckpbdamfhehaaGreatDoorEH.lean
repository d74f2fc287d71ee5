/- Own work. 'dres' is sound; the operations that change the heap. -/
import Derived.Test.YtbckpbdamfhehaaGreatDoorEG
set_option linter.unusedSimpArgs false
set_option linter.unusedVariables false
namespace Go.Esc
open Go Go.RowKit

section
variable {P : Program} {T : Tbl} (hT : TblOk P T)

theorem run_v {s : Sem Value} {u : Value} {w w' : World} (h : s.run P w = .ok u w') : (do pure (.value (← s)) : Sem Next).run P w = .ok (.value u) w' := by
  simp [h]

include hT in
theorem dres_sound {B : Base} {G : Heap} {w : World} (hr : Rel B G w) {env : Env} {a : Act} (he : EnvOk env a.tmps) {o : Oper} {v : AVal} (h : dres T env G o.op = some v) :
    (execOp a.eval o).run P w = .ok (.value (cv v)) w := by
  obtain ⟨dst, op, ty, pos, after, guard⟩ := o
  simp only at h
  cases op <;> simp only [dres] at h <;> try (cases h; done)
  case move x => simp only [execOp, Sem.run_pure, ev_sound he h]
  case assign x => simp only [execOp, Sem.run_pure, ev_sound he h]
  case pick c x y =>
    split at h
    · rename_i u hu
      unfold pickA at h
      split at h
      · rename_i t
        simp only [execOp, ev_sound he hu, cv, asBool, Sem.run_bind, Sem.run_pure, Result.andThen_ok]
        cases t
        · simp only [cond_false] at h
          simp [ev_sound he h]
        · simp only [cond_true] at h
          simp [ev_sound he h]
      · cases h
    · cases h
  case load t x =>
    split at h
    · rename_i u hu
      simp only [execOp, ev_sound he hu]
      exact run_v (vload_sound hT hr h)
    · cases h
  case nilCheck x =>
    split at h
    · rename_i u hu
      simp only [execOp, ev_sound he hu]
      unfold vnil at h
      split at h <;> first
        | (injection h with h; subst h; simp [cv]; done)
        | cases h
    · cases h
  case binOp op t x y yt =>
    split at h
    · rename_i u1 u2 h1 h2
      cases hg : eqOk T op t x y with
      | false => rw [hg] at h; cases h
      | true =>
        rw [hg] at h
        simp only [cond_true] at h
        simp only [execOp, ev_sound he h1, ev_sound he h2]
        refine run_v ?_
        rw [Sem.run_bind, eqGuard_sound hT hg h w]
        exact vbin_sound hT h w
    · cases h
  case unOp op t x =>
    split at h
    · rename_i u hu
      simp only [execOp, ev_sound he hu]
      exact run_v (vun_sound h w)
    · cases h
  case convert s d x =>
    split at h
    · rename_i u hu
      simp only [execOp, ev_sound he hu]
      exact run_v (vconv_sound hT hr h)
    · cases h
  case makeInterface t x =>
    split at h
    · rename_i u i hu hi
      by_cases hd : i.desc = .iface
      · simp [hd] at h
      · simp only [hd, decide_false, cond_false] at h
        injection h with h; subst h
        obtain ⟨ds, h1, h2⟩ := (hT t i hi).und
        simp only [execOp, ev_sound he hu]
        refine run_v ?_
        simp only [Instr.makeInterface, Sem.run_bind, run_underlying h1, Result.andThen_ok, cv]
        cases ds <;> first
          | (exfalso; exact hd h2.symm)
          | simp
    · cases h
  case makeFunc fn first captured =>
    split at h
    · rename_i u1 u2 h1 h2
      injection h with h; subst h
      simp only [execOp, Instr.makeFunc, evs_array he h1, evs_array he h2, cv]
      exact run_v rfl
    · cases h
  case slice t x lo hi mx =>
    split at h
    · rename_i u l hh m h1 h2 h3 h4
      simp only [execOp, ev_sound he h1, evo_sound he h2, evo_sound he h3, evo_sound he h4]
      exact run_v (vslice_sound hT h w)
    · cases h
  case fieldAddr s x f =>
    split at h
    · rename_i u hu
      simp only [execOp, ev_sound he hu]
      exact run_v (vfaddr_sound hT h w)
    · cases h
  case field t x f =>
    split at h
    · rename_i u hu
      simp only [execOp, ev_sound he hu]
      exact run_v (vfield_sound hT h w)
    · cases h
  case indexAddr t x i =>
    split at h
    · rename_i u1 u2 h1 h2
      simp only [execOp, ev_sound he h1, ev_sound he h2]
      exact run_v (viaddr_sound hT h w)
    · cases h
  case index t x i =>
    split at h
    · rename_i u1 u2 h1 h2
      simp only [execOp, ev_sound he h1, ev_sound he h2]
      exact run_v (vindex_sound hT h w)
    · cases h
  case extract x k =>
    split at h
    · rename_i u hu
      simp only [execOp, ev_sound he hu]
      refine run_v ?_
      unfold vextract at h
      split at h
      · rename_i vs
        simp [Instr.extract, cv, cvs_eq, h]
      · cases h
    · cases h
  case lookup t m k ok =>
    split at h
    · rename_i u1 u2 h1 h2
      simp only [execOp, ev_sound he h1, ev_sound he h2]
      exact run_v (vlookup_sound hT hr h)
    · cases h
  case build t parts =>
    split at h
    · rename_i ps hps
      simp only [execOp]
      refine run_v ?_
      have := vbuild_sound (P := P) hT h w
      rw [← evp_sound he hps] at this
      rw [← this]
      congr 2
      apply Array.ext'
      simp
    · cases h
  case call c =>
    obtain ⟨callee, args, ats⟩ := c
    simp only at h
    cases callee with
    | value f => simp at h
    | invoke r m => simp at h
    | builtin b =>
      cases b <;> simp only at h <;> try (cases h; done)
      case len =>
        split at h
        · rename_i x t hx ht
          split at h
          · rename_i u hu
            have e1 : args = #[x] := Array.ext' (by simpa using hx)
            have e2 : ats = #[t] := Array.ext' (by simpa using ht)
            subst e1; subst e2
            simp only [execOp, resolve, invoke, Sem.run_bind, Sem.run_pure, Result.andThen_ok, builtin]
            have := vlen_sound (P := P) hT hr (ty := ty) h
            simp [ev_sound he hu, this]
          · cases h
        · cases h
      case cap =>
        split at h
        · rename_i x t hx ht
          split at h
          · rename_i u hu
            have e1 : args = #[x] := Array.ext' (by simpa using hx)
            have e2 : ats = #[t] := Array.ext' (by simpa using ht)
            subst e1; subst e2
            simp only [execOp, resolve, invoke, Sem.run_bind, Sem.run_pure, Result.andThen_ok, builtin]
            have := vcap_sound (P := P) hT (ty := ty) (w := w) h
            simp [ev_sound he hu, this]
          · cases h
        · cases h
      case min =>
        split at h
        · rename_i x y hx
          split at h
          · rename_i u1 u2 h1 h2
            have e1 : args = #[x, y] := Array.ext' (by simpa using hx)
            subst e1
            simp only [execOp, resolve, invoke, Sem.run_bind, Sem.run_pure, Result.andThen_ok, builtin]
            have := vmin2_sound (P := P) (ty := ty) (ts := ats) (w := w) h
            simp [ev_sound he h1, ev_sound he h2, this]
          · cases h
        · cases h
      case max =>
        split at h
        · rename_i x y hx
          split at h
          · rename_i u1 u2 h1 h2
            have e1 : args = #[x, y] := Array.ext' (by simpa using hx)
            subst e1
            simp only [execOp, resolve, invoke, Sem.run_bind, Sem.run_pure, Result.andThen_ok, builtin]
            have := vmax2_sound (P := P) (ty := ty) (ts := ats) (w := w) h
            simp [ev_sound he h1, ev_sound he h2, this]
          · cases h
        · cases h

end
end Go.Esc
