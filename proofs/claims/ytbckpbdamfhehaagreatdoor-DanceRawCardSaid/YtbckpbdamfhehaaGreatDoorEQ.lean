/- Own work. Two steps of a region that Go leaves unordered change places. -/
import Derived.Test.YtbckpbdamfhehaaGreatDoorEP
set_option linter.unusedSimpArgs false
set_option linter.unusedVariables false
namespace Go.Esc
open Go Go.RowKit

def guardT (ops : Array Oper) (o : Oper) : Option Nat :=
  match o.guard with
  | some jw => (ops[jw.1]?).bind (·.dst)
  | none => none

def noTmp (d : Nat) : List Operand → Bool
  | [] => true
  | x :: l => match x with
    | .tmp t => bif Nat.beq t d then false else noTmp d l
    | _ => noTmp d l

/-- y does not look at x's place. -/
def blind (ops : Array Oper) (x y : Oper) : Bool :=
  match x.dst with
  | none => true
  | some d => noTmp d y.op.operands.toList && match guardT ops y with
    | some t => !Nat.beq t d
    | none => true

def dstNe (x y : Oper) : Bool :=
  match x.dst, y.dst with
  | some a, some b => !Nat.beq a b
  | _, _ => true

def isLoad : Op → Bool
  | .load _ _ => true
  | .convert _ _ _ => true
  | _ => false

def nilB {α : Type} : List α → Bool
  | [] => true
  | _ => false

def pairOk (T : Tbl) (ops : Array Oper) (zi : Nat) (z i : Oper) (ichk : List Nat) : Bool :=
  blind ops z i && blind ops i z && dstNe z i &&
    bif Op.isE T z.op then isA T i.op && nilB ichk && (isC z.op || (isA T z.op || isAp z.op))
    else bif Op.isE T i.op then !readsG T z.op || (isLoad z.op && memN zi ichk) || (isA T i.op && nilB ichk)
    else true

theorem noTmp_spec {d : Nat} : ∀ {l : List Operand}, noTmp d l = true → ∀ x ∈ l, x ≠ .tmp d
  | [], _, x, hx => by simp at hx
  | y :: l, h, x, hx => by
    simp only [noTmp] at h
    rcases List.mem_cons.1 hx with rfl | hm
    · intro e
      subst e
      simp at h
    · split at h
      · rename_i t
        cases hb : Nat.beq t d with
        | true => simp [hb] at h
        | false => rw [hb] at h; exact noTmp_spec h x hm
      · exact noTmp_spec h x hm

theorem blind_ev {ops : Array Oper} {x y : Oper} (h : blind ops x y = true) (env : Env) (v : Option AVal) : ∀ o ∈ y.op.operands.toList, ev (env.put x.dst v) o = ev env o := by
  intro o ho
  refine ev_put fun t ht => ?_
  unfold blind at h
  rw [ht] at h
  simp only [Bool.and_eq_true] at h
  exact noTmp_spec h.1 o ho

theorem wants_eq {ops : Array Oper} {us us' : List Nat} {env env' : Env} {y : Oper} (h : ∀ t, guardT ops y = some t → memN t us = memN t us' ∧ env t = env' t) : wants us env ops y.guard = wants us' env' ops y.guard := by
  unfold wants
  unfold guardT at h
  cases hg : y.guard with
  | none => rfl
  | some jw =>
    simp only [hg] at h ⊢
    cases ht : (ops[jw.1]?).bind (·.dst) with
    | none => rfl
    | some t =>
      obtain ⟨h1, h2⟩ := h t ht
      simp only [h1, h2]

theorem blind_guard {ops : Array Oper} {x y : Oper} (h : blind ops x y = true) {t : Nat} (ht : guardT ops y = some t) : x.dst ≠ some t := by
  intro e
  unfold blind at h
  simp [e, ht] at h

theorem put_ne {env : Env} {d : Option Nat} {v : Option AVal} {t : Nat} (h : d ≠ some t) : env.put d v t = env t := by
  have := ev_put (env := env) (d := d) (v := v) (x := .tmp t) (fun s hs e => h (by injection e with e; rw [hs, e]))
  exact this

theorem wants_cons {ops : Array Oper} {x y : Oper} (h : blind ops x y = true) (us : List Nat) (env : Env) (v : Option AVal) : wants (consU x.dst us) (env.put x.dst v) ops y.guard = wants us env ops y.guard :=
  wants_eq fun t ht => by
    have hne := blind_guard h ht
    exact ⟨bool_ext (by rw [memN_consU]; simp [hne]), put_ne hne⟩

theorem wants_drop {ops : Array Oper} {x y : Oper} (h : blind ops x y = true) (us : List Nat) (env : Env) (v : Option AVal) : wants (dropN x.dst us) (env.put x.dst v) ops y.guard = wants us env ops y.guard :=
  wants_eq fun t ht => by
    have hne := blind_guard h ht
    exact ⟨bool_ext (by rw [memN_dropN]; simp [hne]), put_ne hne⟩

theorem dstNe_spec {x y : Oper} (h : dstNe x y = true) : ∀ t, x.dst = some t → y.dst ≠ some t := by
  intro t ht e
  unfold dstNe at h
  simp [ht, e] at h

section
variable {cx : Cx} {ops : Array Oper} {zi ii : Nat} {z i : Oper} {zchk ichk : List Nat} {M : Kont} {us : List Nat} {ld : List Ld} {env : Env} {G : Heap}

theorem swap (hcx : CxOk cx) (hp : pairOk cx.T ops zi z i ichk = true) (hM : Good M) (hl : Live G)
    (h : stepP cx ops (some zi) z zchk (LL (stepP cx ops (some ii) i ichk (LL M))) us ld env G) :
    stepP cx ops (some ii) i ichk (LL (stepP cx ops (some zi) z zchk (LL M))) us ld env G := by
  have hN : Good (LL M) := LL.good hM
  obtain ⟨N, hNM⟩ : ∃ N, N = LL M := ⟨_, rfl⟩
  rw [← hNM] at hN h ⊢
  have toN : ∀ us ld env G, (Live G → N us ld env G) → N us ld env G := fun us ld env G h => by
    subst hNM
    exact fun hl => h hl hl
  unfold pairOk at hp
  simp only [Bool.and_eq_true] at hp
  obtain ⟨⟨⟨bzi, biz⟩, hne⟩, hkind⟩ := hp
  have hzi := dstNe_spec hne
  have hiz : ∀ t, i.dst = some t → z.dst ≠ some t := fun t ht e => hzi t e ht
  rcases h with ⟨hw, hb⟩ | ⟨hw, hk⟩
  · rcases hb with ⟨he, hb⟩ | ⟨he, v, hv, hk⟩
    · -- z makes, changes or calls
      rw [he] at hkind
      simp only [cond_true, Bool.and_eq_true] at hkind
      obtain ⟨⟨hiA, hnil⟩, hzk0⟩ := hkind
      have hzk : isC z.op = true ∨ isA cx.T z.op = true ∨ isAp z.op = true := by simpa [Bool.or_eq_true] using hzk0
      have hnil : ichk = [] := by cases ichk with
        | nil => rfl
        | cons _ _ => simp [nilB] at hnil
      subst hnil
      obtain ⟨F⟩ := allocForm (cx := cx) (env := env) hiA
      have hsome : ∃ v G', Live G' ∧ stepP cx ops (some ii) i [] N (dropN z.dst us) ld (env.put z.dst v) G' := by
        rcases hzk with hC | hA | hP
        · obtain ⟨pre, f, args, form⟩ := callForm (cx := cx) (env := env) hC
          obtain ⟨_, hc⟩ := (form _ _).1 hb
          obtain ⟨v, G', h1, h2⟩ := (hc.mono_live (Q' := fun v G' => Live G' ∧ stepP cx ops (some ii) i [] N (dropN z.dst us) ld (env.put z.dst (some v)) G') fun v G' hlive hh => ⟨hlive, hh.2 hlive⟩).some_ hl
          exact ⟨_, _, h1, h2⟩
        · obtain ⟨Z⟩ := allocForm (cx := cx) (env := env) hA
          obtain ⟨hpre, hc⟩ := (Z.form _ _).1 hb
          obtain ⟨x⟩ := Z.some_ hpre
          obtain ⟨id, hf, hlive⟩ := hl.alloc (Z.kind x)
          exact ⟨_, _, hlive, (hc x id hf).2 hlive⟩
        · obtain ⟨pre, ts, tx, s1, x1, form⟩ := apForm (cx := cx) (env := env) hP
          obtain ⟨_, hc⟩ := (form _ _).1 hb
          obtain ⟨B, w, hr⟩ := hl
          obtain ⟨_, w', v, G', _, _, hr', hk'⟩ := aAppend_sound (P := cx.P) (ty := 0) hcx.tbl hr hc
          have hlive : Live G' := ⟨B, w', hr'⟩
          exact ⟨_, G', hlive, hk'.2 hlive⟩
      obtain ⟨v0, G0, hl0, hs0⟩ := hsome
      rcases hs0 with ⟨hwi, hb0⟩ | ⟨hwi, _⟩
      · rw [wants_drop bzi] at hwi
        have hbody : ∀ v G', stepP cx ops (some ii) i [] N (dropN z.dst us) ld (env.put z.dst v) G' →
            F.pre ∧ Op.isE cx.T i.op = true ∧ ∀ x id, Fresh G' id → N (dropN i.dst (dropN z.dst us)) ld ((env.put z.dst v).put i.dst (some (F.val x id))) (G'.upd id (F.obj x)) := by
          intro v G' hs
          have hiE : Op.isE cx.T i.op = true := by
            cases hio : i.op <;> rw [hio] at hiA <;> first | rfl | exact hiA | (simp [isA] at hiA; done)
          rcases hs with ⟨_, ⟨_, hb'⟩ | ⟨he', _⟩⟩ | ⟨hw', _⟩
          · rw [awpE_congr (blind_ev bzi env v), F.form] at hb'
            exact ⟨hb'.1, hiE, fun x id hf => (hb'.2 x id hf).2⟩
          · rw [hiE] at he'; cases he'
          · rw [wants_drop bzi, hwi] at hw'; cases hw'
        obtain ⟨hpre, hiE, _⟩ := hbody v0 G0 (.inl ⟨by rw [wants_drop bzi]; exact hwi, hb0⟩)
        refine .inl ⟨hwi, .inl ⟨hiE, (F.form _ _).2 ⟨hpre, fun x id hf => ⟨recheck_nil, fun hl' => .inl ⟨by rw [wants_drop biz]; exact hw, .inl ⟨he, ?_⟩⟩⟩⟩⟩⟩
        rw [awpE_congr (blind_ev biz env _)]
        have fin : ∀ v G', Fresh G' id → (Live G' → ∀ x id, Fresh G' id → N (dropN i.dst (dropN z.dst us)) ld ((env.put z.dst v).put i.dst (some (F.val x id))) (G'.upd id (F.obj x))) →
            N (dropN z.dst (dropN i.dst us)) ld ((env.put i.dst (some (F.val x id))).put z.dst v) (G'.upd id (F.obj x)) := by
          intro v G' hf' hh
          refine toN _ _ _ _ fun hlive => ?_
          have := hh (hlive.le (hf'.le _)) x id hf'
          rw [put_comm hzi] at this
          exact hN _ _ _ _ _ _ (dd_comm _ _ _) (fun _ => Iff.rfl) this
        rcases hzk with hC | hA | hP
        · obtain ⟨pre, f, args, form⟩ := callForm (cx := cx) (env := env) hC
          obtain ⟨hpz, hc⟩ := (form _ _).1 hb
          refine (form _ _).2 ⟨hpz, ?_⟩
          have hc' := hc.mono_live (Q' := fun v G' => recheck cx.T G' zchk ld ∧ stepP cx ops (some ii) i [] N (dropN z.dst us) ld (env.put z.dst (some v)) G') fun v G' hlive hh => ⟨hh.1, hh.2 hlive⟩
          refine (hc'.frame_upd (o := F.obj x) hf).mono fun v G'' ⟨G', hf', e, hrec, hstep⟩ => ?_
          subst e
          exact ⟨recheck_le (hf'.le _) hrec, fin _ _ hf' fun _ => (hbody _ _ hstep).2.2⟩
        · obtain ⟨Z⟩ := allocForm (cx := cx) (env := env) hA
          obtain ⟨hpz, hc⟩ := (Z.form _ _).1 hb
          refine (Z.form _ _).2 ⟨hpz, fun xz idz hfz => ?_⟩
          obtain ⟨hz1, hz2, hz3⟩ := hf.upd_fresh hfz
          have hh := hc xz idz hz1
          rw [upd_comm hz2]
          refine ⟨recheck_le ((hz3 _).le _) hh.1, fin _ _ (hz3 _) fun hlive => (hbody _ _ (hh.2 hlive)).2.2⟩
        · obtain ⟨pre, ts, tx, s1, x1, form⟩ := apForm (cx := cx) (env := env) hP
          obtain ⟨hpz, hc⟩ := (form _ _).1 hb
          refine (form _ _).2 ⟨hpz, ?_⟩
          refine aAppend_mono (fun v G'' hh => ?_) (aAppend_frame (o := F.obj x) hf hc)
          obtain ⟨G', hf', e, hrec, hstep⟩ := hh
          subst e
          exact ⟨recheck_le (hf'.le _) hrec, fin _ _ hf' fun hlive => (hbody _ _ (hstep hlive)).2.2⟩
      · rw [wants_drop bzi] at hwi
        refine .inr ⟨hwi, fun hl' => .inl ⟨by rw [wants_cons biz]; exact hw, .inl ⟨he, ?_⟩⟩⟩
        rw [awpE_congr (blind_ev biz env _)]
        refine awpE_mono (fun v G' hh => ⟨hh.1, toN _ _ _ _ fun hlive => ?_⟩) hb
        rcases hh.2 hlive with ⟨hw', _⟩ | ⟨_, hki⟩
        · rw [wants_drop bzi, hwi] at hw'; cases hw'
        · rw [put_comm hzi] at hki
          exact hN _ _ _ _ _ _ (cd_comm hiz _) (fun _ => Iff.rfl) hki
    · -- z gives a value and leaves the heap alone
      have h2 := hk hl
      rw [he] at hkind
      simp only [cond_false] at hkind
      rcases h2 with ⟨hwi, hbi⟩ | ⟨hwi, hki⟩
      · rw [wants_drop bzi] at hwi
        rcases hbi with ⟨hei, hbi⟩ | ⟨hei, vi, hvi, hki⟩
        · rw [hei] at hkind
          simp only [cond_true] at hkind
          rw [awpE_congr (blind_ev bzi env _)] at hbi
          have fin : ∀ u G', N (dropN i.dst (dropN z.dst us)) (noteL (some zi) env z.op v ld) ((env.put z.dst (some v)).put i.dst u) G' → dres cx.T env G' z.op = some v →
              stepP cx ops (some zi) z zchk N (dropN i.dst us) ld (env.put i.dst u) G' := by
            intro u G' hn hd
            refine .inl ⟨by rw [wants_drop biz]; exact hw, .inr ⟨he, v, by rw [dres_congr (blind_ev biz env _)]; exact hd, ?_⟩⟩
            rw [put_comm hzi] at hn
            exact hN _ _ _ _ _ _ (dd_comm _ _ _) (fun e => by rw [mem_noteL, mem_noteL, NoteIs.congr (blind_ev biz env _)]) hn
          simp only [Bool.or_eq_true, Bool.and_eq_true, Bool.not_eq_true'] at hkind
          have sub : ∀ G', recheck cx.T G' ichk (noteL (some zi) env z.op v ld) → recheck cx.T G' ichk ld := fun G' hr =>
            recheck_iff.2 fun e hm hc => recheck_iff.1 hr e (mem_noteL.2 (.inr hm)) hc
          rcases hkind with (hnr | ⟨hload, hm⟩) | ⟨hiA, hnil⟩
          · refine .inl ⟨hwi, .inl ⟨hei, awpE_mono (fun u G' hh => ⟨sub _ hh.1, fun hl' => fin _ _ hh.2 ?_⟩) hbi⟩⟩
            rw [← dres_noread (G := G) hnr]
            exact hv
          · refine .inl ⟨hwi, .inl ⟨hei, awpE_mono (fun u G' hh => ⟨sub _ hh.1, fun hl' => fin _ _ hh.2 ?_⟩) hbi⟩⟩
            have hr := hh.1
            cases hop : z.op <;> rw [hop] at hload hv <;> try (simp [isLoad] at hload; done)
            case load t x =>
              rw [hop] at hr
              simp only [dres] at hv ⊢
              cases hx : ev env x with
              | none => simp [hx] at hv
              | some a => exact recheck_iff.1 hr ⟨zi, t, a, v, none⟩ (mem_noteL.2 (.inl ⟨zi, t, x, a, none, rfl, hx, rfl, .inl ⟨rfl, rfl⟩⟩)) hm
            case convert s d x =>
              rw [hop] at hr
              simp only [dres] at hv ⊢
              cases hx : ev env x with
              | none => simp [hx] at hv
              | some a => exact recheck_iff.1 hr ⟨zi, d, a, v, some s⟩ (mem_noteL.2 (.inl ⟨zi, d, x, a, some s, rfl, hx, rfl, .inr ⟨s, rfl, rfl⟩⟩)) hm
          · obtain ⟨F⟩ := allocForm (cx := cx) (env := env) hiA
            have hnil : ichk = [] := by cases ichk with
              | nil => rfl
              | cons _ _ => simp [nilB] at hnil
            subst hnil
            obtain ⟨hpre, hh⟩ := (F.form _ _).1 hbi
            exact .inl ⟨hwi, .inl ⟨hei, (F.form _ _).2 ⟨hpre, fun x id hf => ⟨recheck_nil, fun hl' => fin _ _ (hh x id hf).2 (dres_le (hf.le _) hv)⟩⟩⟩⟩
        · rw [dres_congr (blind_ev bzi env _)] at hvi
          refine .inl ⟨hwi, .inr ⟨hei, vi, hvi, fun hl' => .inl ⟨by rw [wants_drop biz]; exact hw, .inr ⟨he, v, by rw [dres_congr (blind_ev biz env _)]; exact hv, ?_⟩⟩⟩⟩
          rw [put_comm hzi] at hki
          refine hN _ _ _ _ _ _ (dd_comm _ _ _) (fun e => ?_) hki
          rw [mem_noteL, mem_noteL, mem_noteL, mem_noteL, NoteIs.congr (blind_ev biz env _), NoteIs.congr (blind_ev bzi env _)]
          constructor <;> (rintro (a | a | a) <;> simp [a])
      · rw [wants_drop bzi] at hwi
        refine .inr ⟨hwi, fun hl' => .inl ⟨by rw [wants_cons biz]; exact hw, .inr ⟨he, v, by rw [dres_congr (blind_ev biz env _)]; exact hv, ?_⟩⟩⟩
        rw [put_comm hzi] at hki
        exact hN _ _ _ _ _ _ (cd_comm hiz _) (fun e => by rw [mem_noteL, mem_noteL, NoteIs.congr (blind_ev biz env _)]) hki
  · have h2 := hk hl
    rcases h2 with ⟨hwi, hbi⟩ | ⟨hwi, hki⟩
    · rw [wants_cons bzi] at hwi
      rcases hbi with ⟨hei, hbi⟩ | ⟨hei, vi, hvi, hki⟩
      · rw [awpE_congr (blind_ev bzi env _)] at hbi
        refine .inl ⟨hwi, .inl ⟨hei, awpE_mono (fun u G' hh => ⟨hh.1, fun hl' => .inr ⟨by rw [wants_drop biz]; exact hw, ?_⟩⟩) hbi⟩⟩
        have := hh.2
        rw [put_comm hzi] at this
        exact hN _ _ _ _ _ _ (fun t => (cd_comm hzi _ t).symm) (fun _ => Iff.rfl) this
      · rw [dres_congr (blind_ev bzi env _)] at hvi
        refine .inl ⟨hwi, .inr ⟨hei, vi, hvi, fun hl' => .inr ⟨by rw [wants_drop biz]; exact hw, ?_⟩⟩⟩
        rw [put_comm hzi] at hki
        exact hN _ _ _ _ _ _ (fun t => (cd_comm hzi _ t).symm) (fun e => by rw [mem_noteL, mem_noteL, NoteIs.congr (blind_ev bzi env _)]) hki
    · rw [wants_cons bzi] at hwi
      refine .inr ⟨hwi, fun hl' => .inr ⟨by rw [wants_cons biz]; exact hw, ?_⟩⟩
      rw [put_comm hzi] at hki
      exact hN _ _ _ _ _ _ (cc_comm _ _ _) (fun _ => Iff.rfl) hki

end
end Go.Esc
