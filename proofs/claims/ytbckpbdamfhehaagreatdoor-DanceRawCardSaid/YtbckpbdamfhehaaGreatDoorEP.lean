/- Own work. Two operations of which Go leaves open which comes first: they may change places. -/
import Derived.Test.YtbckpbdamfhehaaGreatDoorEO
set_option linter.unusedSimpArgs false
set_option linter.unusedVariables false
namespace Go.Esc
open Go Go.RowKit

/-! ### A step, with its guard looked at -/

def wants (us : List Nat) (env : Env) (ops : Array Oper) (g : Option (Nat × Bool)) : Option Bool :=
  match g with
  | none => some true
  | some (j, want) => match (ops[j]?).bind (·.dst) with
    | some t => bif memN t us then some false else match env t with
      | some (.bool b) => some (b == want)
      | _ => none
    | none => none

abbrev Kont := List Nat → List Ld → Env → Heap → Prop

def bodyP (cx : Cx) (ix : Option Nat) (o : Oper) (chk : List Nat) (K : Kont) (us : List Nat) (ld : List Ld) (env : Env) (G : Heap) : Prop :=
  (Op.isE cx.T o.op = true ∧ awpE cx env G (fun v G' => recheck cx.T G' chk ld ∧ K (dropN o.dst us) ld (env.put o.dst v) G') o.op) ∨
  (Op.isE cx.T o.op = false ∧ ∃ v, dres cx.T env G o.op = some v ∧ K (dropN o.dst us) (noteL ix env o.op v ld) (env.put o.dst (some v)) G)

def stepP (cx : Cx) (ops : Array Oper) (ix : Option Nat) (o : Oper) (chk : List Nat) (K : Kont) (us : List Nat) (ld : List Ld) (env : Env) (G : Heap) : Prop :=
  (wants us env ops o.guard = some true ∧ bodyP cx ix o chk K us ld env G) ∨ (wants us env ops o.guard = some false ∧ K (consU o.dst us) ld (env.put o.dst none) G)

theorem withChk_iff {T : Tbl} {chk : List Nat} {ld : List Ld} {K : Option AVal → Heap → Prop} {v : Option AVal} {G' : Heap} : withChk T chk ld K v G' ↔ recheck T G' chk ld ∧ K v G' := by
  cases chk with
  | nil => exact ⟨fun h => ⟨recheck_nil, h⟩, fun h => h.2⟩
  | cons c cs => exact Iff.rfl

theorem bodyP_iff {cx : Cx} {ix : Option Nat} {o : Oper} {chk : List Nat} {K : Kont} {us : List Nat} {ld : List Ld} {env : Env} {G : Heap} :
    bodyP cx ix o chk K us ld env G ↔ (bif Op.isE cx.T o.op then awpE cx env G (withChk cx.T chk ld fun v G' => K (dropN o.dst us) ld (env.put o.dst v) G') o.op
      else wv (dres cx.T env G o.op) fun v => K (dropN o.dst us) (noteL ix env o.op v ld) (env.put o.dst (some v)) G) := by
  unfold bodyP
  cases Op.isE cx.T o.op with
  | true =>
    simp only [cond_true, true_and, false_and, or_false, Bool.true_eq_false]
    exact ⟨fun hh => awpE_mono (fun v G' h => withChk_iff.2 h) hh, fun hh => awpE_mono (fun v G' h => withChk_iff.1 h) hh⟩
  | false =>
    simp only [cond_false, true_and, false_and, false_or, Bool.false_eq_true]
    unfold wv
    constructor
    · rintro ⟨v, hv, h⟩
      rw [hv]
      exact h
    · intro h
      split at h
      · rename_i v hv
        exact ⟨v, hv, h⟩
      · exact h.elim

theorem awpO_iff {cx : Cx} {ops : Array Oper} {ix : Option Nat} {o : Oper} {chk : List Nat} {K : Kont} {us : List Nat} {ld : List Ld} {env : Env} {G : Heap} :
    awpO cx ops ix o chk K us ld env G ↔ stepP cx ops ix o chk K us ld env G := by
  unfold awpO stepP guardP wants
  cases hg : o.guard with
  | none => simp [bodyP_iff]
  | some jw =>
    obtain ⟨j, want⟩ := jw
    simp only
    cases ht : (ops[j]?).bind (·.dst) with
    | none => simp
    | some t =>
      simp only
      cases hm : memN t us with
      | true => simp
      | false =>
        simp only [cond_false]
        unfold brB
        cases he : env t with
        | none => simp
        | some a =>
          cases a <;> try (simp; done)
          rename_i b
          simp only
          cases b <;> cases want <;> simp only [cond_true, cond_false, put_self he] <;> simp [bodyP_iff]

/-! ### What a continuation may look at -/

def Good (K : Kont) : Prop := ∀ us us' ld ld' env G, (∀ t, memN t us = memN t us') → (∀ e, e ∈ ld ↔ e ∈ ld') → K us ld env G → K us' ld' env G

theorem memN_consU (d : Option Nat) (t : Nat) (us : List Nat) : memN t (consU d us) = true ↔ d = some t ∨ memN t us = true := by
  cases d with
  | none => simp [consU]
  | some d =>
    simp only [consU, memN_cons, Option.some.injEq]
    exact ⟨fun h => h.imp Eq.symm id, fun h => h.imp Eq.symm id⟩

theorem memN_dropN (d : Option Nat) (t : Nat) : ∀ us, memN t (dropN d us) = true ↔ memN t us = true ∧ d ≠ some t
  | [] => by simp [dropN, memN]
  | x :: l => by
    refine ⟨memN_drop d t _, fun ⟨h, hd⟩ => ?_⟩
    cases d with
    | none => exact h
    | some d =>
      simp only [dropN]
      have hx := (memN_cons _ _ _).1 h
      cases hb : Nat.beq d x with
      | true =>
        simp only [cond_true]
        refine (memN_dropN (some d) t l).2 ⟨hx.resolve_left fun e => hd (by rw [e, Nat.eq_of_beq_eq_true hb]), hd⟩
      | false =>
        simp only [cond_false]
        exact (memN_cons _ _ _).2 (hx.imp id fun hl => (memN_dropN (some d) t l).2 ⟨hl, hd⟩)

theorem bool_ext {a b : Bool} (h : a = true ↔ b = true) : a = b := by cases a <;> cases b <;> simp_all

theorem memN_consU_congr {us us' : List Nat} (h : ∀ t, memN t us = memN t us') (d : Option Nat) (t : Nat) : memN t (consU d us) = memN t (consU d us') :=
  bool_ext (by rw [memN_consU, memN_consU, h])
theorem memN_dropN_congr {us us' : List Nat} (h : ∀ t, memN t us = memN t us') (d : Option Nat) (t : Nat) : memN t (dropN d us) = memN t (dropN d us') :=
  bool_ext (by rw [memN_dropN, memN_dropN, h])

theorem cc_comm (d e : Option Nat) (us : List Nat) (t : Nat) : memN t (consU d (consU e us)) = memN t (consU e (consU d us)) :=
  bool_ext (by simp only [memN_consU]; constructor <;> (rintro (h | h | h) <;> simp [h]))
theorem dd_comm (d e : Option Nat) (us : List Nat) (t : Nat) : memN t (dropN d (dropN e us)) = memN t (dropN e (dropN d us)) :=
  bool_ext (by simp only [memN_dropN]; constructor <;> (rintro ⟨⟨a, b⟩, c⟩; exact ⟨⟨a, c⟩, b⟩))
theorem cd_comm {d e : Option Nat} (h : ∀ t, d = some t → e ≠ some t) (us : List Nat) (t : Nat) : memN t (consU d (dropN e us)) = memN t (dropN e (consU d us)) :=
  bool_ext (by
    simp only [memN_dropN, memN_consU]
    constructor
    · rintro (a | ⟨a, b⟩)
      · exact ⟨.inl a, h t a⟩
      · exact ⟨.inr a, b⟩
    · rintro ⟨a | a, b⟩
      · exact .inl a
      · exact .inr ⟨a, b⟩)

def NoteIs (ix : Option Nat) (env : Env) (op : Op) (v : AVal) (e : Ld) : Prop :=
  ∃ i t x a s, ix = some i ∧ ev env x = some a ∧ e = ⟨i, t, a, v, s⟩ ∧ ((s = none ∧ op = .load t x) ∨ ∃ s', s = some s' ∧ op = .convert s' t x)

theorem mem_noteL {ix : Option Nat} {env : Env} {op : Op} {v : AVal} {ld : List Ld} {e : Ld} : e ∈ noteL ix env op v ld ↔ NoteIs ix env op v e ∨ e ∈ ld := by
  unfold noteL
  cases ix with
  | none => simp [NoteIs]
  | some i =>
    cases op <;> simp only <;> try (simp [NoteIs]; done)
    case load t x =>
      cases hx : ev env x with
      | none =>
        simp only
        constructor
        · exact .inr
        · rintro (⟨i', t', x', a', s', h1, h2, h3, ⟨_, h4⟩ | ⟨_, _, h4⟩⟩ | h)
          · injection h4 with h4 h5
            subst h5
            rw [hx] at h2; cases h2
          · cases h4
          · exact h
      | some a =>
        simp only [List.mem_cons]
        constructor
        · rintro (h | h)
          · exact .inl ⟨i, t, x, a, none, rfl, hx, h, .inl ⟨rfl, rfl⟩⟩
          · exact .inr h
        · rintro (⟨i', t', x', a', s', h1, h2, h3, ⟨hs, h4⟩ | ⟨_, _, h4⟩⟩ | h)
          · injection h1 with h1
            injection h4 with h4 h5
            subst h1 h4 h5 hs
            rw [hx] at h2
            injection h2 with h2
            subst h2
            exact .inl h3
          · cases h4
          · exact .inr h
    case convert s d x =>
      cases hx : ev env x with
      | none =>
        simp only
        constructor
        · exact .inr
        · rintro (⟨i', t', x', a', s', h1, h2, h3, ⟨_, h4⟩ | ⟨_, _, h4⟩⟩ | h)
          · cases h4
          · injection h4 with h4 h5 h6
            subst h6
            rw [hx] at h2; cases h2
          · exact h
      | some a =>
        simp only [List.mem_cons]
        constructor
        · rintro (h | h)
          · exact .inl ⟨i, d, x, a, some s, rfl, hx, h, .inr ⟨s, rfl, rfl⟩⟩
          · exact .inr h
        · rintro (⟨i', t', x', a', s', h1, h2, h3, ⟨_, h4⟩ | ⟨s2, hs, h4⟩⟩ | h)
          · cases h4
          · injection h1 with h1
            injection h4 with h4 h5 h6
            subst h1 h4 h5 h6 hs
            rw [hx] at h2
            injection h2 with h2
            subst h2
            exact .inl h3
          · exact .inr h

theorem NoteIs.congr {ix : Option Nat} {env env' : Env} {op : Op} {v : AVal} {e : Ld} (h : ∀ x ∈ op.operands.toList, ev env x = ev env' x) : NoteIs ix env op v e ↔ NoteIs ix env' op v e := by
  constructor
  · rintro ⟨i, t, x, a, s, h1, h2, h3, h4⟩
    exact ⟨i, t, x, a, s, h1, by rw [← h x (by rcases h4 with ⟨_, h4⟩ | ⟨_, _, h4⟩ <;> (subst h4; simp [Op.operands]))]; exact h2, h3, h4⟩
  · rintro ⟨i, t, x, a, s, h1, h2, h3, h4⟩
    exact ⟨i, t, x, a, s, h1, by rw [h x (by rcases h4 with ⟨_, h4⟩ | ⟨_, _, h4⟩ <;> (subst h4; simp [Op.operands]))]; exact h2, h3, h4⟩

theorem recheck_congr {T : Tbl} {G : Heap} {chk : List Nat} {ld ld' : List Ld} (h : ∀ e, e ∈ ld ↔ e ∈ ld') (hr : recheck T G chk ld) : recheck T G chk ld' :=
  recheck_iff.2 fun e he hm => recheck_iff.1 hr e ((h e).2 he) hm

theorem wants_congr {us us' : List Nat} (h : ∀ t, memN t us = memN t us') (env : Env) (ops : Array Oper) (g : Option (Nat × Bool)) : wants us env ops g = wants us' env ops g := by
  unfold wants
  cases g with
  | none => rfl
  | some jw =>
    simp only
    cases (ops[jw.1]?).bind (·.dst) with
    | none => rfl
    | some t => simp only [h]

theorem stepP_good {cx : Cx} {ops : Array Oper} {ix : Option Nat} {o : Oper} {chk : List Nat} {K : Kont} (hK : Good K) : Good (stepP cx ops ix o chk K) := by
  intro us us' ld ld' env G hu hl h
  rcases h with ⟨hw, hb⟩ | ⟨hw, hk⟩
  · refine .inl ⟨by rw [← wants_congr hu]; exact hw, ?_⟩
    rcases hb with ⟨he, hb⟩ | ⟨he, v, hv, hk⟩
    · exact .inl ⟨he, awpE_mono (fun v G' hh => ⟨recheck_congr hl hh.1, hK _ _ _ _ _ _ (memN_dropN_congr hu _) hl hh.2⟩) hb⟩
    · refine .inr ⟨he, v, hv, hK _ _ _ _ _ _ (memN_dropN_congr hu _) (fun e => ?_) hk⟩
      rw [mem_noteL, mem_noteL, hl]
  · exact .inr ⟨by rw [← wants_congr hu]; exact hw, hK _ _ _ _ _ _ (memN_consU_congr hu _) hl hk⟩

theorem stepP_mono {cx : Cx} {ops : Array Oper} {ix : Option Nat} {o : Oper} {chk : List Nat} {K K' : Kont} (hk : ∀ us ld env G, K us ld env G → K' us ld env G) {us : List Nat} {ld : List Ld} {env : Env} {G : Heap}
    (h : stepP cx ops ix o chk K us ld env G) : stepP cx ops ix o chk K' us ld env G := by
  rcases h with ⟨hw, ⟨he, hb⟩ | ⟨he, v, hv, h⟩⟩ | ⟨hw, h⟩
  · exact .inl ⟨hw, .inl ⟨he, awpE_mono (fun v G' hh => ⟨hh.1, hk _ _ _ _ hh.2⟩) hb⟩⟩
  · exact .inl ⟨hw, .inr ⟨he, v, hv, hk _ _ _ _ h⟩⟩
  · exact .inr ⟨hw, hk _ _ _ _ h⟩

/-- Asked only of heaps that a world has. -/
def LL (K : Kont) : Kont := fun us ld env G => Live G → K us ld env G

theorem LL.good {K : Kont} (h : Good K) : Good (LL K) := fun _ _ _ _ _ _ hu hl hk hlive => h _ _ _ _ _ _ hu hl (hk hlive)

/-! ### Operations that make memory, and calls -/

def isA (T : Tbl) : Op → Bool
  | .alloc _ | .box _ _ | .buildSlice _ _ _ | .makeSlice _ _ _ | .makeMap _ _ => true
  | .convert s d x => Op.isE T (.convert s d x)
  | _ => false

def isC : Op → Bool
  | .call c => match c.callee with
    | .builtin _ => false
    | _ => true
  | _ => false

structure AllocForm (cx : Cx) (env : Env) (op : Op) where
  pre : Prop
  X : Type
  val : X → AId → AVal
  obj : X → AObj
  some_ : pre → Nonempty X
  kind : ∀ x, (∃ t, obj x = .own t) ∨ obj x = .map []
  form : ∀ G K, awpE cx env G K op ↔ pre ∧ ∀ x id, Fresh G id → K (some (val x id)) (G.upd id (obj x))

def AllocForm.never {cx : Cx} {env : Env} {op : Op} (h : ∀ G K, ¬ awpE cx env G K op) : AllocForm cx env op where
  pre := False
  X := Unit
  val := fun _ _ => .bool true
  obj := fun _ => .map []
  some_ := fun h => h.elim
  kind := fun _ => .inr rfl
  form := fun G K => ⟨fun hh => (h G K hh).elim, fun hh => hh.1.elim⟩

theorem allocForm {cx : Cx} {env : Env} {op : Op} (h : isA cx.T op = true) : Nonempty (AllocForm cx env op) := by
  cases op <;> try (simp [isA] at h; done)
  case alloc t =>
    cases ht : cx.T t with
    | none => exact ⟨.never fun G K hh => by simp [awpE, ht] at hh⟩
    | some i => exact ⟨⟨True, Unit, fun _ id => .ptr id [] 0, fun _ => .own i.zero, fun _ => ⟨()⟩, fun _ => .inl ⟨_, rfl⟩, fun G K => by simp [awpE, ht, aNew]⟩⟩
  case box t x =>
    cases ht : ev env x with
    | none => exact ⟨.never fun G K hh => by simp [awpE, ht] at hh⟩
    | some v => exact ⟨⟨True, Unit, fun _ id => .ptr id [] 0, fun _ => .own v, fun _ => ⟨()⟩, fun _ => .inl ⟨_, rfl⟩, fun G K => by simp [awpE, ht, aNew]⟩⟩
  case makeMap t r =>
    cases r with
    | some r => exact ⟨.never fun G K hh => by simp [awpE] at hh⟩
    | none => exact ⟨⟨True, Unit, fun _ id => .map id, fun _ => .map [], fun _ => ⟨()⟩, fun _ => .inr rfl, fun G K => by simp [awpE, aNew]⟩⟩
  case buildSlice t n ps =>
    cases hp : evp env ps.toList with
    | none => exact ⟨.never fun G K hh => by simp [awpE, hp] at hh⟩
    | some l =>
      cases ht : cx.T t with
      | none => exact ⟨.never fun G K hh => by simp [awpE, hp, aBuildSlice, ht] at hh⟩
      | some si =>
        cases hd : si.desc
        case slice e =>
          cases hi : cx.T e with
          | none => exact ⟨.never fun G K hh => by simp [awpE, hp, aBuildSlice, ht, hd, hi] at hh⟩
          | some i =>
            cases hf : fillA (fun k => some (k * i.size, i.size)) (List.replicate n i.zero) l with
            | none => exact ⟨.never fun G K hh => by simp [awpE, hp, aBuildSlice, ht, hd, hi, hf] at hh⟩
            | some cs => exact ⟨⟨n * i.size ≤ 16777216, Unit, fun _ id => .slice id [] 0 0 n n, fun _ => .own (.agg cs), fun _ => ⟨()⟩, fun _ => .inl ⟨_, rfl⟩,
                fun G K => by simp [awpE, hp, aBuildSlice, ht, hd, hi, hf, aNew]⟩⟩
        all_goals exact ⟨.never fun G K hh => by simp [awpE, hp, aBuildSlice, ht, hd] at hh⟩
  case makeSlice t l c =>
    cases hl : ev env l with
    | none => exact ⟨.never fun G K hh => by simp [awpE, hl] at hh⟩
    | some l' =>
      cases hc : ev env c with
      | none => exact ⟨.never fun G K hh => by simp [awpE, hl, hc] at hh⟩
      | some c' =>
        cases ht : cx.T t with
        | none => exact ⟨.never fun G K hh => by simp [awpE, hl, hc, aMakeSlice, ht] at hh⟩
        | some si =>
          cases l'
          case int k n =>
            cases c'
            case int k' m =>
              cases hd : si.desc
              case slice e =>
                cases hi : cx.T e with
                | none => exact ⟨.never fun G K hh => by simp [awpE, hl, hc, aMakeSlice, ht, hd, hi] at hh⟩
                | some i => exact ⟨⟨0 ≤ n ∧ n ≤ m ∧ (i.bytes : Int) * m ≤ 281474976710656 ∧ m ≤ 9223372036854775807, Unit, fun _ id => .slice id [] 0 0 n.toNat m.toNat,
                    fun _ => .own (.agg (List.replicate m.toNat i.zero)), fun _ => ⟨()⟩, fun _ => .inl ⟨_, rfl⟩, fun G K => by simp [awpE, hl, hc, aMakeSlice, ht, hd, hi, aMake, aNew, and_assoc]⟩⟩
              all_goals exact ⟨.never fun G K hh => by simp [awpE, hl, hc, aMakeSlice, ht, hd] at hh⟩
            all_goals exact ⟨.never fun G K hh => by simp [awpE, hl, hc, aMakeSlice, ht] at hh⟩
          all_goals exact ⟨.never fun G K hh => by simp [awpE, hl, hc, aMakeSlice, ht] at hh⟩
  case convert s d x =>
    cases hx : ev env x with
    | none => exact ⟨.never fun G K hh => by simp [awpE, hx] at hh⟩
    | some v =>
      cases hs : cx.T s with
      | none => exact ⟨.never fun G K hh => by simp [awpE, hx, aConvBytes, hs] at hh⟩
      | some si =>
        cases hd : cx.T d with
        | none => exact ⟨.never fun G K hh => by simp [awpE, hx, aConvBytes, hs, hd] at hh⟩
        | some di =>
          cases v
          case str l =>
            cases hdd : di.desc
            case slice e =>
              cases hi : cx.T e with
              | none => exact ⟨.never fun G K hh => by simp [awpE, hx, aConvBytes, hs, hd, hdd, hi] at hh⟩
              | some i =>
                exact ⟨⟨i.desc = .int .u8 ∧ l.length ≤ maxLen, { cap : Nat // l.length ≤ cap ∧ cap ≤ maxLen }, fun c id => .slice id [] 0 0 l.length c.1,
                  fun c => .own (.agg (l.map (fun b => .int .u8 b.toNat) ++ List.replicate (c.1 - l.length) (.int .u8 0))), fun hh => ⟨⟨l.length, Nat.le_refl _, hh.2⟩⟩, fun _ => .inl ⟨_, rfl⟩, fun G K => by
                    simp only [awpE, hx, aConvBytes, hs, hd, hdd, hi, aBytes, aNew]
                    constructor
                    · rintro ⟨h1, h2, h3⟩
                      exact ⟨⟨h1, h2⟩, fun c id hf => h3 c.1 c.2.1 c.2.2 id hf⟩
                    · rintro ⟨⟨h1, h2⟩, h3⟩
                      exact ⟨h1, h2, fun cap a b id hf => h3 ⟨cap, a, b⟩ id hf⟩⟩⟩
            all_goals exact ⟨.never fun G K hh => by simp [awpE, hx, aConvBytes, hs, hd, hdd] at hh⟩
          all_goals exact ⟨.never fun G K hh => by simp [awpE, hx, aConvBytes, hs, hd] at hh⟩

theorem callForm {cx : Cx} {env : Env} {op : Op} (h : isC op = true) : ∃ (pre : Prop) (f : FuncId) (args : List AVal), ∀ G K, awpE cx env G K op ↔ pre ∧ ACalls cx.P f args G fun v G' => K (some v) G' := by
  cases op <;> try (simp [isC] at h; done)
  rename_i c
  simp only [isC] at h
  cases hc : c.callee with
  | builtin b => simp [hc] at h
  | value f =>
    cases hf : ev env f with
    | none => exact ⟨False, 0, [], fun G K => by simp [awpE, hc, hf]⟩
    | some fv =>
      cases ha : evs env c.args.toList with
      | none => exact ⟨False, 0, [], fun G K => by simp [awpE, hc, hf, ha]⟩
      | some args =>
        cases fv
        case func fn first cap =>
          cases fn
          case func k => exact ⟨True, k, first ++ args ++ cap, fun G K => by simp [awpE, hc, hf, ha, aCallV]⟩
          all_goals exact ⟨False, 0, [], fun G K => by simp [awpE, hc, hf, ha, aCallV]⟩
        all_goals exact ⟨False, 0, [], fun G K => by simp [awpE, hc, hf, ha, aCallV]⟩
  | invoke r m =>
    cases hf : ev env r with
    | none => exact ⟨False, 0, [], fun G K => by simp [awpE, hc, hf]⟩
    | some rv =>
      cases ha : evs env c.args.toList with
      | none => exact ⟨False, 0, [], fun G K => by simp [awpE, hc, hf, ha]⟩
      | some args =>
        cases rv
        case iface t v =>
          cases hm : cx.meth t m with
          | none => exact ⟨False, 0, [], fun G K => by simp [awpE, hc, hf, ha, aInvoke, hm]⟩
          | some k => exact ⟨True, k, v :: args, fun G K => by simp [awpE, hc, hf, ha, aInvoke, hm]⟩
        all_goals exact ⟨False, 0, [], fun G K => by simp [awpE, hc, hf, ha, aInvoke]⟩

theorem CallsX.some_ {P : Program} {f : FuncId} {args : Array Value} {w : World} {R : Value → World → Prop} (h : CallsX P f args w R) : ∃ u w', R u w' := by
  unfold CallsX at h
  split at h
  · exact ⟨_, _, h⟩
  · obtain ⟨e, w', fr, ⟨u, _, hr⟩, _⟩ := h []
    exact ⟨u, w', hr⟩
  · exact h.elim

theorem ACalls.some_ {P : Program} {f : FuncId} {args : List AVal} {G : Heap} {Q : AVal → Heap → Prop} (h : ACalls P f args G Q) (hl : Live G) : ∃ v G', Q v G' :=
  let ⟨B, w, hr⟩ := hl
  let ⟨_, _, v, G', _, _, q⟩ := (h B w hr).some_
  ⟨v, G', q⟩

theorem Fresh.le {G : Heap} {id : AId} (h : Fresh G id) (o : AObj) : G.le (G.upd id o) := fun j x hx => by
  rw [Heap.upd_ne _ _ (h.ne (by rw [hx]; rfl))]
  exact hx

/-- A row that a call is not told of stays, and what the call makes has another name. -/
theorem ACalls.frame_upd {P : Program} {f : FuncId} {args : List AVal} {G : Heap} {id : AId} {o : AObj} {Q : AVal → Heap → Prop} (h : ACalls P f args G Q) (hf : Fresh G id) :
    ACalls P f args (G.upd id o) fun v G'' => ∃ G', Fresh G' id ∧ G'' = G'.upd id o ∧ Q v G' := by
  intro B w hr
  have hle := hf.le o
  refine (h _ w (hr.weaken hle).ownBase).mono fun u w' ⟨v, G1', e, r, q⟩ => ⟨v, (G.upd id o).merge G G1', e, hr.merge hle r, G1', ⟨hf.1, hf.2.1, fun j hj e' => ?_⟩, ?_, q⟩
  · have hlt : id.block < w.heap.size := (hr.obj id o (Heap.upd_self _ _ _)).lt hr.size
    have hpr : (Esc.ownBase G w (hr.weaken hle).roCells).prot j.block := ⟨by rw [e']; exact hlt, fun k x hk _ e'' => hf.2.2 k (by rw [hk]; rfl) (e''.trans e')⟩
    cases hg : G1' j with
    | none => simp [hg] at hj
    | some x =>
      have hok := r.obj j x hg
      cases x with
      | own t => obtain ⟨_, _, b, _⟩ := hok; exact b hpr
      | map t => obtain ⟨_, _, b, _⟩ := hok; exact b hpr
      | ro t =>
        have h1 : (match G j with | some (.ro t) => some t | _ => none) = some t := hok
        split at h1
        · rename_i t' ht
          exact hf.2.2 j (by rw [ht]; rfl) e'
        · cases h1
  · funext j
    unfold Heap.merge
    by_cases hj : j = id
    · subst hj
      simp [hf.none, Heap.upd]
    · simp only [Heap.upd_ne _ _ hj]
      by_cases hs : (G j).isSome = true <;> simp [hs]

theorem Live.le {G1 G : Heap} (hle : G1.le G) (h : Live G) : Live G1 := let ⟨B, w, hr⟩ := h; ⟨B, w, hr.weaken hle⟩

/-- There is a free name, and a row may lie under it. -/
theorem Live.alloc {G : Heap} (h : Live G) {o : AObj} (ho : (∃ t, o = .own t) ∨ o = .map []) : ∃ id, Fresh G id ∧ Live (G.upd id o) := by
  obtain ⟨B, w, hr⟩ := h
  refine ⟨nextId w, hr.fresh, B, ?_⟩
  rcases ho with ⟨t, rfl⟩ | rfl
  · exact ⟨_, hr.alloc t 0 (0, 0) (.inl (Nat.le_refl _))⟩
  · exact ⟨_, hr.allocMap 0⟩

theorem upd_comm {G : Heap} {id id' : AId} {o o' : AObj} (h : id ≠ id') : (G.upd id o).upd id' o' = (G.upd id' o').upd id o := by
  funext j
  simp only [Heap.upd]
  by_cases h1 : j = id
  · subst h1; simp [h]
  · simp [h1]

theorem Fresh.upd_fresh {G : Heap} {id id' : AId} {o : AObj} (h : Fresh G id) (h' : Fresh (G.upd id o) id') : Fresh G id' ∧ id ≠ id' ∧ ∀ o', Fresh (G.upd id' o') id := by
  have hne : id.block ≠ id'.block := h'.2.2 id (by rw [Heap.upd_self]; rfl)
  refine ⟨⟨h'.1, h'.2.1, fun j hj => h'.2.2 j ?_⟩, fun e => hne (by rw [e]), fun o' => ⟨h.1, h.2.1, fun j hj => ?_⟩⟩
  · have := h.ne hj
    rw [Heap.upd_ne _ _ this]; exact hj
  · by_cases e : j = id'
    · rw [e]; exact Ne.symm hne
    · rw [Heap.upd_ne _ _ e] at hj; exact h.2.2 j hj

/-! ### append -/
def isAp : Op → Bool
  | .call c => match c.callee with
    | .builtin .append => true
    | _ => false
  | _ => false

theorem apForm {cx : Cx} {env : Env} {op : Op} (h : isAp op = true) : ∃ (pre : Prop) (ts tx : TypeId) (s x : AVal), ∀ G K, awpE cx env G K op ↔ pre ∧ aAppend cx.T G ts tx s x fun v G' => K (some v) G' := by
  cases op <;> try (simp [isAp] at h; done)
  rename_i c
  simp only [isAp] at h
  split at h
  · rename_i hc
    cases ha : c.args.toList with
    | nil => exact ⟨False, 0, 0, .nilSlice, .nilSlice, fun G K => by simp [awpE, hc, ha]⟩
    | cons s r =>
      cases r with
      | nil => exact ⟨False, 0, 0, .nilSlice, .nilSlice, fun G K => by simp [awpE, hc, ha]⟩
      | cons x r =>
        cases r with
        | cons _ _ => exact ⟨False, 0, 0, .nilSlice, .nilSlice, fun G K => by simp [awpE, hc, ha]⟩
        | nil =>
          cases ht : c.argTypes.toList with
          | nil => exact ⟨False, 0, 0, .nilSlice, .nilSlice, fun G K => by simp [awpE, hc, ha, ht]⟩
          | cons ts r =>
            cases r with
            | nil => exact ⟨False, 0, 0, .nilSlice, .nilSlice, fun G K => by simp [awpE, hc, ha, ht]⟩
            | cons tx r =>
              cases r with
              | cons _ _ => exact ⟨False, 0, 0, .nilSlice, .nilSlice, fun G K => by simp [awpE, hc, ha, ht]⟩
              | nil =>
                cases h1 : ev env s with
                | none => exact ⟨False, 0, 0, .nilSlice, .nilSlice, fun G K => by simp [awpE, hc, ha, ht, h1]⟩
                | some s' =>
                  cases h2 : ev env x with
                  | none => exact ⟨False, 0, 0, .nilSlice, .nilSlice, fun G K => by simp [awpE, hc, ha, ht, h1, h2]⟩
                  | some x' => exact ⟨True, ts, tx, s', x', fun G K => by simp [awpE, hc, ha, ht, h1, h2]⟩
  · cases h

theorem grow_frame {i : TI} {G : Heap} {olds vs : List AVal} {K : AVal → Heap → Prop} {id : AId} {o : AObj} (hf : Fresh G id) (h : grow i G olds vs K) : grow i (G.upd id o) olds vs fun v G'' => ∃ G', Fresh G' id ∧ G'' = G'.upd id o ∧ K v G' := by
  obtain ⟨h1, h2, h3⟩ := h
  refine ⟨h1, h2, fun id' cap hf' hc hm => ?_⟩
  obtain ⟨k1, k2, k3⟩ := hf.upd_fresh hf'
  exact ⟨_, k3 _, upd_comm k2, h3 id' cap k1 hc hm⟩

theorem lay_frame {i : TI} {G : Heap} {idr : AId} {p : List Nat} {st off at_ : Nat} {vs : List AVal} {K : Heap → Prop} {id : AId} {o : AObj} (hf : Fresh G id) (h : lay i G idr p st off at_ vs K) : lay i (G.upd id o) idr p st off at_ vs fun G'' => ∃ G', Fresh G' id ∧ G'' = G'.upd id o ∧ K G' := by
  unfold lay at h ⊢
  split at h
  · exact ⟨G, hf, rfl, h⟩
  · split at h
    · rename_i cs hcs
      obtain ⟨h1, h2, h3, h⟩ := h
      split at h
      · rename_i G' hG'
        rw [arrAt_le (hf.le o) hcs]
        refine ⟨h1, h2, h3, ?_⟩
        unfold putArr at hG' ⊢
        split at hG'
        · rename_i tr hg
          have hne : idr ≠ id := hf.ne (by rw [hg]; rfl)
          have hg' : G.upd id o idr = some (.own tr) := by rw [Heap.upd_ne _ _ hne]; exact hg
          rw [hg']
          split at hG'
          · rename_i u hu
            injection hG' with hG'
            subst hG'
            simp only [hu]
            refine ⟨_, ⟨hf.1, hf.2.1, fun j hj => ?_⟩, upd_comm (Ne.symm hne), h⟩
            by_cases hj2 : j = idr
            · subst hj2
              exact hf.2.2 j (by rw [hg]; rfl)
            · rw [Heap.upd_ne _ _ hj2] at hj
              exact hf.2.2 j hj
          · cases hG'
        · cases hG'
      · exact h.elim
    · exact h.elim

theorem aAppend_frame {T : Tbl} {G : Heap} {ts tx : TypeId} {s x : AVal} {K : AVal → Heap → Prop} {id : AId} {o : AObj} (hf : Fresh G id) (h : aAppend T G ts tx s x K) :
    aAppend T (G.upd id o) ts tx s x fun v G'' => ∃ G', Fresh G' id ∧ G'' = G'.upd id o ∧ K v G' := by
  replace h := h.out
  refine ⟨?_⟩
  unfold aAppend0 at h ⊢
  split at h
  · split at h
    · split at h
      · obtain ⟨h0, h⟩ := h
        refine ⟨h0, ?_⟩
        split at h
        · rename_i vs hvs
          rw [selems_le (hf.le o) hvs]
          cases s with
          | nilSlice =>
            simp only at h ⊢
            split at h
            · exact ⟨G, hf, rfl, h⟩
            · exact grow_frame hf h
          | slice id' p st off len cap =>
            simp only at h ⊢
            refine ⟨fun hle => lay_frame hf (h.1 hle), fun hlt => ?_⟩
            have h := h.2 hlt
            split at h
            · rename_i olds ho
              rw [selems_le (hf.le o) ho]
              exact grow_frame hf h
            · exact h.elim
          | _ => exact h.elim
        · exact h.elim
      · exact h.elim
    · exact h.elim
  · exact h.elim

end Go.Esc
