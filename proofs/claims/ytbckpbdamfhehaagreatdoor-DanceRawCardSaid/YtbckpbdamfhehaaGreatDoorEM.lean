/- Own work. Code: what is asked ahead of it ('awp'), and that the model's run then does it. -/
import Derived.Test.YtbckpbdamfhehaaGreatDoorEL
set_option linter.unusedSimpArgs false
set_option linter.unusedVariables false
namespace Go.Esc
open Go Go.RowKit

def wv (o : Option AVal) (K : AVal → Prop) : Prop :=
  match o with
  | some v => K v
  | none => False

def brB (v : Option AVal) (p q : Prop) : Prop :=
  match v with
  | some (.bool b) => bif b then p else q
  | _ => False

def dropN (t : Option Nat) : List Nat → List Nat
  | [] => []
  | x :: l => match t with
    | none => x :: l
    | some t => bif Nat.beq t x then dropN (some t) l else x :: dropN (some t) l

/-- An operation that runs only where another one told that bool; which it is, is known from there on. 'us': the slots of what was passed over. -/
def guardP (us : List Nat) (env : Env) (ops : Array Oper) (g : Option (Nat × Bool)) (yes no : Env → Prop) : Prop :=
  match g with
  | none => yes env
  | some (j, want) =>
    match (ops[j]?).bind (·.dst) with
    | some t =>
      bif memN t us then no env
      else brB (env t) (bif want then yes (env.put (some t) (some (.bool true))) else no (env.put (some t) (some (.bool true))))
        (bif want then no (env.put (some t) (some (.bool false))) else yes (env.put (some t) (some (.bool false))))
    | none => False

def consU (d : Option Nat) (us : List Nat) : List Nat :=
  match d with
  | some t => t :: us
  | none => us

/-- A load is noted under its number. -/
def noteL (ix : Option Nat) (env : Env) (op : Op) (v : AVal) (ld : List Ld) : List Ld :=
  match ix with
  | none => ld
  | some i => match op with
    | .load t x => match ev env x with
      | some a => ⟨i, t, a, v, none⟩ :: ld
      | none => ld
    | .convert s d x => match ev env x with
      | some a => ⟨i, d, a, v, some s⟩ :: ld
      | none => ld
    | _ => ld

def awpO (cx : Cx) (ops : Array Oper) (ix : Option Nat) (o : Oper) (chk : List Nat) (K : List Nat → List Ld → Env → Heap → Prop) (us : List Nat) (ld : List Ld) (env : Env) (G : Heap) : Prop :=
  guardP us env ops o.guard
    (fun env => bif Op.isE cx.T o.op then awpE cx env G (withChk cx.T chk ld fun v G' => K (dropN o.dst us) ld (env.put o.dst v) G') o.op
      else wv (dres cx.T env G o.op) fun v => K (dropN o.dst us) (noteL ix env o.op v ld) (env.put o.dst (some v)) G)
    (fun env => K (consU o.dst us) ld (env.put o.dst none) G)

def awpSeq (cx : Cx) (ops : Array Oper) : List Oper → (Env → Heap → Prop) → List Nat → List Ld → Env → Heap → Prop
  | [], K, _, _, env, G => K env G
  | o :: os, K, us, ld, env, G => awpO cx ops none o [] (awpSeq cx ops os K) us ld env G

def awpL (cx : Cx) (ops : Array Oper) : List (Nat × List Nat) → (Env → Heap → Prop) → List Nat → List Ld → Env → Heap → Prop
  | [], K, _, _, env, G => K env G
  | (i, chk) :: l, K, us, ld, env, G =>
    match ops[i]? with
    | some o => awpO cx ops (some i) o chk (awpL cx ops l K) us ld env G
    | none => False

inductive Ann where
  | nil
  | two (a b : Ann)
  | loop (live : List Nat) (rows : List Bool) (a : Ann)
  | cut (live : List Nat) (rows : List Bool) (a b : Ann)
  | ord (l : List (Nat × List Nat))

def Ann.fst : Ann → Ann
  | .two a _ => a
  | .cut _ _ a _ => a
  | _ => .nil
def Ann.snd : Ann → Ann
  | .two _ b => b
  | .cut _ _ _ b => b
  | _ => .nil

def thenE (next : Env → Heap → Prop) (Q : Exit → Env → Heap → Prop) : Exit → Env → Heap → Prop
  | .normal => next
  | e => Q e

def inBlockE (id : Nat) (Q : Exit → Env → Heap → Prop) : Exit → Env → Heap → Prop
  | .exit id' => bif Nat.beq id' id then Q .normal else Q (.exit id')
  | e => Q e

def allN : Nat → (List AVal → Prop) → Prop
  | 0, p => p []
  | n + 1, p => ∀ a, allN n fun l => p (a :: l)

/-- The same; where the list says so, a pointer to a whole row. -/
def allK : List Bool → (List AVal → Prop) → Prop
  | [], p => p []
  | b :: bs, p => bif b then ∀ i : AId, allK bs fun l => p (.ptr i [] 0 :: l) else ∀ a, allK bs fun l => p (a :: l)

theorem allK_intro : ∀ {bs : List Bool} {p : List AVal → Prop}, (∀ vs, p vs) → allK bs p
  | [], p, h => h []
  | true :: bs, p, h => fun i => allK_intro fun vs => h _
  | false :: bs, p, h => fun a => allK_intro fun vs => h _

def envOf : List Nat → List AVal → Env
  | t :: ts, v :: vs => fun x => bif Nat.beq x t then some v else envOf ts vs x
  | _, _ => fun _ => none

/-- The values of the slots that a loop goes on with. -/
def liveOf (env : Env) : List Nat → (List AVal → Prop) → Prop
  | [], K => K []
  | t :: ts, K => match env t with
    | some v => liveOf env ts fun l => K (v :: l)
    | none => False

def awp (cx : Cx) : Code → Ann → (Exit → Env → Heap → Prop) → Env → Heap → Prop
  | .skip, _, Q, env, G => Q .normal env G
  | .region _ ops draw, an, Q, env, G =>
    bif draw then
      match an with
      | .ord l => awpL cx ops l (Q .normal) [] [] env G
      | _ => False
    else awpSeq cx ops ops.toList (Q .normal) [] [] env G
  | .seq x y, an, Q, env, G =>
    match an with
    | .cut live rows a b => ∀ J : List AVal → Heap → Prop, (allK rows fun vs => ∀ G, awp cx y b Q (envOf live vs) G → J vs G) → awp cx x a (thenE (fun env' G' => liveOf env' live fun l => J l G') Q) env G
    | an => awp cx x an.fst (thenE (awp cx y an.snd Q) Q) env G
  | .cond c x y, an, Q, env, G => brB (ev env c) (awp cx x an.fst Q env G) (awp cx y an.snd Q env G)
  | .block id c, an, Q, env, G => awp cx c an (inBlockE id Q) env G
  | .loop c, an, Q, env, G =>
    match an with
    | .loop live rows a => ∀ R : List AVal → Heap → Prop,
      (allK rows fun vs => ∀ G, awp cx c a (thenE (fun env' G' => liveOf env' live fun l => R l G') Q) (envOf live vs) G → R vs G) → liveOf env live fun l => R l G
    | _ => False
  | .exit id, _, Q, env, G => Q (.exit id) env G
  | .ret, _, Q, env, G => Q .ret env G
  | _, _, _, _, _ => False

/-- Every operation's place is one of the frame's. -/
def dstOk (n : Nat) : Code → Bool
  | .region _ ops _ => ops.toList.all fun o => match o.dst with
    | some d => Nat.blt d n
    | none => true
  | .seq x y => dstOk n x && dstOk n y
  | .cond _ x y => dstOk n x && dstOk n y
  | .block _ c => dstOk n c
  | .loop c => dstOk n c
  | _ => true

/-! ### Soundness -/

/-- The model's state has an abstract one of which K holds. -/
def St (B : Base) (n : Nat) (K : Env → Heap → Prop) (a : Act) (w : World) : Prop :=
  a.defers = [] ∧ a.tmps.size = n ∧ ∃ env G, EnvOk env a.tmps ∧ Rel B G w ∧ K env G

def lift (B : Base) (n : Nat) (Q : Exit → Env → Heap → Prop) : Exit → Act → World → Prop
  | .panic _, _, _ => False
  | .outgrown, _, _ => False
  | e, a, w => St B n (Q e) a w

theorem St.mono {B : Base} {n : Nat} {K K' : Env → Heap → Prop} {a : Act} {w : World} (h : St B n K a w) (hk : ∀ env G, K env G → K' env G) : St B n K' a w :=
  let ⟨h1, h2, env, G, h3, h4, h5⟩ := h; ⟨h1, h2, env, G, h3, h4, hk _ _ h5⟩

theorem put_size (a : Act) (d : Option Nat) (v : Value) : (a.put d v).tmps.size = a.tmps.size := by
  cases d <;> simp [Act.put]
theorem put_defers (a : Act) (d : Option Nat) (v : Value) : (a.put d v).defers = a.defers := by
  cases d <;> rfl

theorem EnvOk.learn {env : Env} {tmps : Array Value} (h : EnvOk env tmps) {t : Nat} {v : AVal} (ht : env t = some v) : EnvOk (env.put (some t) (some v)) tmps := by
  intro x u hx
  simp only [Env.put] at hx
  cases hb : Nat.beq x t with
  | true =>
    rw [hb] at hx
    simp only [cond_true] at hx
    rw [Nat.eq_of_beq_eq_true hb]
    injection hx with hx; subst hx
    exact h t v ht
  | false => rw [hb] at hx; exact h x u hx

section
variable {cx : Cx} (hcx : CxOk cx) {B : Base}

/-- What an operation's step asks, in the model's words. -/
def stepOp (P : Program) (ops : Array Oper) (o : Oper) (next : Act → World → Prop) (Q : Exit → Act → World → Prop) (a : Act) (w : World) : Prop :=
  if Region.wanted o (yielded ops a.tmps) then o.wp P a w next Q else next (a.put o.dst undef) w

/-- What was passed over has no value. -/
def UsOk (us : List Nat) (tmps : Array Value) : Prop := ∀ t, memN t us = true → tmps[t]? = some undef

theorem memN_cons (t x : Nat) (l : List Nat) : memN t (x :: l) = true ↔ t = x ∨ memN t l = true := by
  simp only [memN]
  cases h : Nat.beq t x with
  | true => simp [Nat.eq_of_beq_eq_true h]
  | false =>
    have : t ≠ x := fun e => by subst e; simp at h
    simp [this]

theorem memN_drop (d : Option Nat) (t : Nat) : ∀ us, memN t (dropN d us) = true → memN t us = true ∧ d ≠ some t
  | [], h => by simp [dropN, memN] at h
  | x :: l, h => by
    cases d with
    | none => exact ⟨h, by simp⟩
    | some d =>
      simp only [dropN] at h
      cases hb : Nat.beq d x with
      | true =>
        rw [hb] at h
        have := memN_drop (some d) t l h
        exact ⟨(memN_cons _ _ _).2 (.inr this.1), this.2⟩
      | false =>
        rw [hb] at h
        simp only [cond_false] at h
        rcases (memN_cons _ _ _).1 h with rfl | h
        · exact ⟨(memN_cons _ _ _).2 (.inl rfl), fun e => by injection e with e; subst e; simp at hb⟩
        · have := memN_drop (some d) t l h
          exact ⟨(memN_cons _ _ _).2 (.inr this.1), this.2⟩

theorem UsOk.drop {us : List Nat} {a : Act} (h : UsOk us a.tmps) (d : Option Nat) (u : Value) : UsOk (dropN d us) (a.put d u).tmps := by
  intro t ht
  obtain ⟨h1, h2⟩ := memN_drop d t us ht
  cases d with
  | none => exact h t h1
  | some d =>
    have hne : d ≠ t := fun e => h2 (by rw [e])
    simp [Act.put, Array.getElem?_setIfInBounds_ne hne, h t h1]

theorem UsOk.cons {us : List Nat} {a : Act} (h : UsOk us a.tmps) (d : Option Nat) (hd : ∀ t, d = some t → t < a.tmps.size) : UsOk (consU d us) (a.put d undef).tmps := by
  cases d with
  | none => exact h
  | some d =>
    intro t ht
    have hlt := hd d rfl
    by_cases e : d = t
    · subst e; simp [Act.put, hlt]
    · rcases (memN_cons _ _ _).1 ht with rfl | ht
      · exact absurd rfl e
      · simp [Act.put, Array.getElem?_setIfInBounds_ne e, h t ht]

/-- The same, with what was passed over. -/
def StU (B : Base) (n : Nat) (K : List Nat → List Ld → Env → Heap → Prop) (a : Act) (w : World) : Prop :=
  a.defers = [] ∧ a.tmps.size = n ∧ ∃ us ld env G, UsOk us a.tmps ∧ EnvOk env a.tmps ∧ Rel B G w ∧ K us ld env G

include hcx in
theorem awpO_sound {n : Nat} {ops : Array Oper} {ix : Option Nat} {o : Oper} {chk : List Nat} {K : List Nat → List Ld → Env → Heap → Prop} {us : List Nat} {ld : List Ld} {env : Env} {G : Heap} {a : Act} {w : World} {Q : Exit → Act → World → Prop}
    (hd : ∀ t, o.dst = some t → t < n) (h : awpO cx ops ix o chk K us ld env G) (h1 : a.defers = []) (h2 : a.tmps.size = n) (hu : UsOk us a.tmps) (he : EnvOk env a.tmps) (hr : Rel B G w) :
    stepOp cx.P ops o (StU B n K) Q a w := by
  have hdl : ∀ t, o.dst = some t → t < a.tmps.size := by rw [h2]; exact hd
  have hno : ∀ env', EnvOk env' a.tmps → K (consU o.dst us) ld (env'.put o.dst none) G → StU B n K (a.put o.dst undef) w := fun env' he' hk =>
    ⟨by rw [put_defers]; exact h1, by rw [put_size]; exact h2, _, _, _, _, hu.cons _ hdl, he'.put hdl (fun _ hx => by cases hx), hr, hk⟩
  have hyes : ∀ env', EnvOk env' a.tmps → (bif Op.isE cx.T o.op then awpE cx env' G (withChk cx.T chk ld fun v G' => K (dropN o.dst us) ld (env'.put o.dst v) G') o.op
      else wv (dres cx.T env' G o.op) fun v => K (dropN o.dst us) (noteL ix env' o.op v ld) (env'.put o.dst (some v)) G) → o.wp cx.P a w (StU B n K) Q := by
    intro env' he' hk
    cases hE : Op.isE cx.T o.op with
    | true =>
      rw [hE] at hk
      simp only [cond_true] at hk
      refine awpE_sound hcx hr he' hk fun v G' u w' r hv hK => ?_
      have hK' : K (dropN o.dst us) ld (env'.put o.dst v) G' := by
        cases chk with
        | nil => exact hK
        | cons c cs => exact hK.2
      exact ⟨by rw [put_defers]; exact h1, by rw [put_size]; exact h2, _, _, _, _, hu.drop _ _, he'.put hdl hv, r, hK'⟩
    | false =>
      rw [hE] at hk
      simp only [cond_false] at hk
      unfold wv at hk
      split at hk
      · rename_i v hv
        exact upon_ok (dres_sound hcx.tbl hr he' hv) ⟨by rw [put_defers]; exact h1, by rw [put_size]; exact h2, _, _, _, _, hu.drop _ _, he'.put hdl (fun x hx => by injection hx with hx; subst hx; rfl), hr, hk⟩
      · exact hk.elim
  unfold awpO guardP at h
  unfold stepOp
  split at h
  · rename_i hg
    rw [if_pos (by simp [Region.wanted, hg])]
    exact hyes env he h
  · rename_i j want hg
    split at h
    · rename_i t ht
      cases hm : memN t us with
      | true =>
        rw [hm] at h
        simp only [cond_true] at h
        have hy : yielded ops a.tmps j = none := by
          simp only [yielded, ht, Option.bind_some]
          rw [hu t hm]
          rfl
        rw [if_neg (by simp [Region.wanted, hg, hy])]
        exact hno _ he h
      | false =>
        rw [hm] at h
        simp only [cond_false] at h
        unfold brB at h
        split at h
        · rename_i b hb
          have hl := he.learn hb
          have hy : yielded ops a.tmps j = some b := by
            simp only [yielded, ht, Option.bind_some]
            rw [he t _ hb]
            simp [cv]
          cases b <;> cases want <;> simp only [cond_true, cond_false] at h
          · rw [if_pos (by simp [Region.wanted, hg, hy])]; exact hyes _ hl h
          · rw [if_neg (by simp [Region.wanted, hg, hy])]; exact hno _ hl h
          · rw [if_neg (by simp [Region.wanted, hg, hy])]; exact hno _ hl h
          · rw [if_pos (by simp [Region.wanted, hg, hy])]; exact hyes _ hl h
        · exact h.elim
    · exact h.elim

theorem UsOk.nil (tmps : Array Value) : UsOk [] tmps := fun t h => by simp [memN] at h

include hcx in
theorem awpSeq_sound {n : Nat} {ops : Array Oper} {Q : Exit → Env → Heap → Prop} : ∀ (l : List Oper), (∀ o ∈ l, ∀ t, o.dst = some t → t < n) →
    ∀ {a : Act} {w : World}, StU B n (awpSeq cx ops l (Q .normal)) a w → wpList cx.P ops (lift B n Q) l a w
  | [], _, a, w, ⟨h1, h2, us, ld, env, G, _, he, hr, h⟩ => by
    simp only [wpList]
    exact ⟨h1, h2, env, G, he, hr, h⟩
  | o :: l, hd, a, w, ⟨h1, h2, us, ld, env, G, hu, he, hr, h⟩ => by
    have := awpO_sound (Q := lift B n Q) hcx (hd o (by simp)) h h1 h2 hu he hr
    unfold stepOp at this
    unfold wpList
    split
    · rename_i hw
      rw [if_pos hw] at this
      exact .inl (Oper.wp_mono (fun a w h => awpSeq_sound l (fun o ho => hd o (by simp [ho])) h) this)
    · rename_i hw
      rw [if_neg hw] at this
      exact awpSeq_sound l (fun o ho => hd o (by simp [ho])) this

/-- What a loop asks from its body's beginning on. -/
def LoopWp (P : Program) (c : Code) (Q : Exit → Act → World → Prop) (a : Act) (w : World) : Prop :=
  ∀ (b : Frame) (k : List Item) (cs : List Frame), ∃ e a' w', Q e a' w' ∧ Arrives P (lone (b.at a (.code c :: .inLoop c :: k)) cs w) b k cs e a' w'

theorem wp_of_loopWp {P : Program} {c : Code} {Q : Exit → Act → World → Prop} {a : Act} {w : World} (h : LoopWp P c Q a w) : (Code.loop c).wp P Q a w :=
  fun b k cs => let ⟨e, a', w', q, arr⟩ := h b k cs; ⟨e, a', w', q, .of_steps (.one step_loop) arr⟩

theorem loopWp_round {P : Program} {c : Code} {Q : Exit → Act → World → Prop} {a : Act} {w : World} (h : c.wp P (Exit.then (LoopWp P c Q) Q) a w) : LoopWp P c Q a w := by
  intro b k cs
  obtain ⟨e, a₁, w₁, hq, harr⟩ := h b (.inLoop c :: k) cs
  cases e with
  | normal =>
    obtain ⟨e, a₂, w₂, hq₂, harr₂⟩ := hq b k cs
    exact ⟨e, a₂, w₂, hq₂, .of_steps (Steps.trans harr (.one step_inLoop)) harr₂⟩
  | exit id => exact ⟨_, a₁, w₁, hq, .pass (x := .inLoop c) rfl (fun _ _ => .inl (by simp)) harr⟩
  | goto l => exact ⟨_, a₁, w₁, hq, .pass (x := .inLoop c) rfl (fun _ _ => .inl (by simp)) harr⟩
  | ret => exact ⟨_, a₁, w₁, hq, .pass (x := .inLoop c) rfl (fun _ _ => .inl (by simp)) harr⟩
  | panic ch => exact ⟨_, a₁, w₁, hq, .pass (x := .inLoop c) rfl (fun _ _ => .inl (by simp)) harr⟩
  | outgrown => exact ⟨_, a₁, w₁, hq, .pass (x := .inLoop c) rfl (fun _ _ => .inl (by simp)) harr⟩

theorem allN_intro : ∀ {n : Nat} {p : List AVal → Prop}, (∀ vs, vs.length = n → p vs) → allN n p
  | 0, p, h => h [] rfl
  | n + 1, p, h => fun a => allN_intro fun vs hv => h (a :: vs) (by simp [hv])

theorem allN_elim : ∀ {n : Nat} {p : List AVal → Prop}, allN n p → ∀ vs, vs.length = n → p vs
  | 0, p, h, vs, hv => by cases vs with
    | nil => exact h
    | cons v vs => simp at hv
  | n + 1, p, h, vs, hv => by cases vs with
    | nil => simp at hv
    | cons v vs => exact allN_elim (h v) vs (by simpa using hv)

theorem liveOf_spec {env : Env} : ∀ {ts : List Nat} {K : List AVal → Prop}, liveOf env ts K → ∃ vs, vs.length = ts.length ∧ K vs ∧ ∀ tmps, EnvOk env tmps → EnvOk (envOf ts vs) tmps
  | [], K, h => ⟨[], rfl, h, fun _ _ t v ht => by simp [envOf] at ht⟩
  | t :: ts, K, h => by
    simp only [liveOf] at h
    split at h
    · rename_i v hv
      obtain ⟨vs, h1, h2, h3⟩ := liveOf_spec h
      refine ⟨v :: vs, by simp [h1], h2, fun tmps he x u hx => ?_⟩
      simp only [envOf] at hx
      cases hb : Nat.beq x t with
      | true =>
        rw [hb] at hx
        simp only [cond_true] at hx
        injection hx with hx; subst hx
        rw [Nat.eq_of_beq_eq_true hb]
        exact he t v hv
      | false => rw [hb] at hx; exact h3 tmps he x u hx
    · exact h.elim

def drawsOk (cx : Cx) : Code → Ann → Prop
  | .region id ops draw, an => draw = true → match an with
    | .ord l => ∀ (B : Base) (n : Nat) (Q : Exit → Env → Heap → Prop) (a : Act) (w : World), (∀ o ∈ ops.toList, ∀ t, o.dst = some t → t < n) → StU B n (awpL cx ops l (Q .normal)) a w →
      (Code.region id ops true).wp cx.P (lift B n Q) a w
    | _ => True
  | .seq x y, an => drawsOk cx x an.fst ∧ drawsOk cx y an.snd
  | .cond _ x y, an => drawsOk cx x an.fst ∧ drawsOk cx y an.snd
  | .block _ c, an => drawsOk cx c an
  | .loop c, an => match an with
    | .loop _ _ a => drawsOk cx c a
    | _ => True
  | _, _ => True

theorem lift_mono {n : Nat} {Q Q' : Exit → Act → World → Prop} {c : Code} {a : Act} {w : World} {P : Program} (h : c.wp P Q a w) (hq : ∀ e a w, Q e a w → Q' e a w) : c.wp P Q' a w := wp_mono h hq

include hcx in
theorem awp_sound {n : Nat} : ∀ (c : Code) (an : Ann) (Q : Exit → Env → Heap → Prop) (a : Act) (w : World), dstOk n c = true → drawsOk cx c an → St B n (awp cx c an Q) a w → c.wp cx.P (lift B n Q) a w
  | .skip, an, Q, a, w, _, _, h => wp_skip h
  | .exit id, an, Q, a, w, _, _, h => wp_exit h
  | .ret, an, Q, a, w, _, _, h => wp_ret h
  | .region id ops draw, an, Q, a, w, hd, hdr, h => by
    have hd' : ∀ o ∈ ops.toList, ∀ t, o.dst = some t → t < n := by
      intro o ho t ht
      simp only [dstOk, List.all_eq_true] at hd
      have := hd o ho
      rw [ht] at this
      simpa [Nat.blt_eq] using this
    cases draw with
    | false =>
      obtain ⟨h1, h2, env, G, he, hr, h⟩ := h
      exact wp_region_list (awpSeq_sound hcx ops.toList hd' ⟨h1, h2, [], [], env, G, UsOk.nil _, he, hr, h⟩)
    | true =>
      simp only [awp, cond_true] at h
      simp only [drawsOk] at hdr
      have hdr := hdr trivial
      split at hdr
      · obtain ⟨h1, h2, env, G, he, hr, h⟩ := h
        exact hdr B n Q a w hd' ⟨h1, h2, [], [], env, G, UsOk.nil _, he, hr, h⟩
      · rename_i hne
        obtain ⟨_, _, env, G, _, _, h⟩ := h
        split at h
        · exact absurd rfl (hne _)
        · exact h.elim
  | .seq x y, an, Q, a, w, hd, hdr, h => by
    simp only [dstOk, Bool.and_eq_true] at hd
    have plain : St B n (awp cx x an.fst (thenE (awp cx y an.snd Q) Q)) a w → (Code.seq x y).wp cx.P (lift B n Q) a w := fun h => by
      refine wp_seq (lift_mono (n := n) (awp_sound x an.fst _ a w hd.1 hdr.1 h) fun e a w q => ?_)
      cases e with
      | normal => exact awp_sound y an.snd Q a w hd.2 hdr.2 q
      | _ => exact q
    cases an with
    | cut live rows an1 an2 =>
      obtain ⟨h1, h2, env, G, he, hr, h⟩ := h
      simp only [awp] at h
      have key := h (fun vs G => awp cx y an2 Q (envOf live vs) G) (allK_intro fun vs G hb => hb)
      refine wp_seq (lift_mono (n := n) (awp_sound x an1 _ a w hd.1 hdr.1 ⟨h1, h2, env, G, he, hr, key⟩) fun e a w q => ?_)
      cases e with
      | normal =>
        obtain ⟨q1, q2, env', G', qe, qr, q⟩ := q
        obtain ⟨vs', k1, k2, k3⟩ := liveOf_spec q
        exact awp_sound y an2 Q a w hd.2 hdr.2 ⟨q1, q2, envOf live vs', G', k3 _ qe, qr, k2⟩
      | _ => exact q
    | nil => exact plain h
    | two _ _ => exact plain h
    | loop _ _ _ => exact plain h
    | ord _ => exact plain h
  | .cond c x y, an, Q, a, w, hd, hdr, ⟨h1, h2, env, G, he, hr, h⟩ => by
    simp only [dstOk, Bool.and_eq_true] at hd
    simp only [awp] at h
    unfold brB at h
    split at h
    · rename_i b hb
      cases b with
      | true => exact wp_cond_true (by rw [ev_sound he hb]; rfl) (awp_sound x an.fst Q a w hd.1 hdr.1 ⟨h1, h2, env, G, he, hr, h⟩)
      | false => exact wp_cond_false (by rw [ev_sound he hb]; rfl) (awp_sound y an.snd Q a w hd.2 hdr.2 ⟨h1, h2, env, G, he, hr, h⟩)
    · exact h.elim
  | .block id c, an, Q, a, w, hd, hdr, h => by
    refine wp_block (lift_mono (n := n) (awp_sound c an _ a w hd hdr h) fun e a w q => ?_)
    cases e with
    | exit id' =>
      simp only [Exit.inBlock]
      simp only [lift, inBlockE] at q
      by_cases hid : id' = id
      · subst hid
        simp only [if_true]
        refine q.mono fun env G hq => ?_
        rw [show Nat.beq id' id' = true by simp] at hq
        exact hq
      · simp only [hid, if_false]
        refine q.mono fun env G hq => ?_
        have : Nat.beq id' id = false := by
          cases hb : Nat.beq id' id with
          | false => rfl
          | true => exact absurd (Nat.eq_of_beq_eq_true hb) hid
        rw [this] at hq
        exact hq
    | _ => exact q
  | .loop c, an, Q, a, w, hd, hdr, ⟨h1, h2, env, G, he, hr, h⟩ => by
    cases an with
    | loop live rows an' =>
      simp only [awp] at h
      have key := h (fun vs G => vs.length = live.length → ∀ a w, a.defers = [] → a.tmps.size = n → EnvOk (envOf live vs) a.tmps → Rel B G w → LoopWp cx.P c (lift B n Q) a w) ?_
      · obtain ⟨vs, k1, k2, k3⟩ := liveOf_spec key
        exact wp_of_loopWp (k2 k1 a w h1 h2 (k3 _ he) hr)
      · refine allK_intro fun vs G hb hlen a w g1 g2 ge gr => ?_
        refine loopWp_round (lift_mono (n := n) (awp_sound c an' _ a w hd hdr ⟨g1, g2, _, G, ge, gr, hb⟩) fun e a w q => ?_)
        cases e with
        | normal =>
          obtain ⟨q1, q2, env', G', qe, qr, q⟩ := q
          obtain ⟨vs', k1, k2, k3⟩ := liveOf_spec q
          exact k2 k1 a w q1 q2 (k3 _ qe) qr
        | _ => exact q
    | _ => simp only [awp] at h
  | .rangeFunc .., an, Q, a, w, _, _, ⟨_, _, _, _, _, _, h⟩ => by simp only [awp] at h
  | .scope .., an, Q, a, w, _, _, ⟨_, _, _, _, _, _, h⟩ => by simp only [awp] at h
  | .label .., an, Q, a, w, _, _, ⟨_, _, _, _, _, _, h⟩ => by simp only [awp] at h
  | .goto .., an, Q, a, w, _, _, ⟨_, _, _, _, _, _, h⟩ => by simp only [awp] at h
  | .refuse .., an, Q, a, w, _, _, ⟨_, _, _, _, _, _, h⟩ => by simp only [awp] at h

end
end Go.Esc
