/- Own work. Operations that give a value and leave the heap alone ('D'), and that the model's do the same. -/
import Derived.Test.YtbckpbdamfhehaaGreatDoorEB
import Derived.Laws.BytesString
import Derived.ChangeKeysEq
set_option linter.unusedSimpArgs false
set_option linter.unusedVariables false
namespace Go.Esc
open Go Go.RowKit

/-! ### Constants, operands -/

def ac : Value → Option AVal
  | .int k n => some (.int k n)
  | .bool b => some (.bool b)
  | .string s => some (.str s.data.toList)
  | .pointer none => some .nilPtr
  | .slice none 0 0 => some .nilSlice
  | .map none => some .nilMap
  | .nilFunc => some .nilFunc
  | .nilIface => some .nilIface
  | .func fn a b => if a.size = 0 ∧ b.size = 0 then some (.func fn [] []) else none
  | .tuple a => if a.size = 0 then some (.tuple []) else none
  | _ => none

theorem ac_sound {v : Value} {a : AVal} (h : ac v = some a) : v = cv a := by
  unfold ac at h
  split at h <;> first
    | (injection h with h; subst h; simp [cv]; done)
    | (split at h
       · rename_i he
         injection h with h; subst h
         simp_all [cv, cvs]
       · cases h)
    | cases h

abbrev Env := Nat → Option AVal

def ev (env : Env) : Operand → Option AVal
  | .tmp t => env t
  | .const v => ac v
  | .global g => some (.ptr ⟨g, 0, 0⟩ [] 0)
  | .func f => some (.func (.func f) [] [])

def Env.put (env : Env) (d : Option Nat) (v : Option AVal) : Env :=
  match d with
  | some d => fun t => bif Nat.beq t d then v else env t
  | none => env

/-- The slots that are known hold what the model's hold. -/
def EnvOk (env : Env) (tmps : Array Value) : Prop := ∀ t v, env t = some v → tmps[t]? = some (cv v)

theorem ev_sound {env : Env} {a : Act} (h : EnvOk env a.tmps) {x : Operand} {v : AVal} (hx : ev env x = some v) : a.eval x = cv v := by
  cases x with
  | tmp t => simp only [ev] at hx; simp [Act.eval, h t v hx]
  | const c => simp only [ev] at hx; exact ac_sound hx
  | global g => simp only [ev, Option.some.injEq] at hx; subst hx; simp [Act.eval, cv, AId.addr_of (id := ⟨g, 0, 0⟩) rfl]
  | func f => simp only [ev, Option.some.injEq] at hx; subst hx; simp [Act.eval, cv, cvs]

theorem EnvOk.put {env : Env} {a : Act} (h : EnvOk env a.tmps) {d : Option Nat} {v : Option AVal} {u : Value} (hd : ∀ t, d = some t → t < a.tmps.size) (hv : ∀ x, v = some x → u = cv x) :
    EnvOk (env.put d v) (a.put d u).tmps := by
  cases d with
  | none => exact h
  | some d =>
    intro t x ht
    simp only [Env.put] at ht
    have hlt := hd d rfl
    by_cases e : t = d
    · subst e
      rw [show Nat.beq t t = true by simp] at ht
      simp only [cond_true] at ht
      simp [Act.put, hlt, hv x ht]
    · have hb : Nat.beq t d = false := by
        cases hbb : Nat.beq t d with
        | false => rfl
        | true => exact absurd (Nat.eq_of_beq_eq_true hbb) e
      rw [hb] at ht
      simp only [cond_false] at ht
      simp [Act.put, Array.getElem?_setIfInBounds_ne (Ne.symm e), h t x ht]

/-! ### Whole numbers, strings, equality -/

def vint (op : BinOp) (k : IntKind) (a b : Int) : Option AVal :=
  match op with
  | .add => some (.int k (k.wrap (a + b)))
  | .sub => some (.int k (k.wrap (a - b)))
  | .mul => some (.int k (k.wrap (a * b)))
  | .quo => if b = 0 then none else some (.int k (k.wrap (a.tdiv b)))
  | .rem => if b = 0 then none else some (.int k (a.tmod b))
  | .and => some (.int k (k.wrap (BitVec.ofInt k.bits a &&& BitVec.ofInt k.bits b).toNat))
  | .or => some (.int k (k.wrap (BitVec.ofInt k.bits a ||| BitVec.ofInt k.bits b).toNat))
  | .xor => some (.int k (k.wrap (BitVec.ofInt k.bits a ^^^ BitVec.ofInt k.bits b).toNat))
  | .andNot => some (.int k (k.wrap (BitVec.ofInt k.bits a &&& ~~~ (BitVec.ofInt k.bits b)).toNat))
  | .eql => some (.bool (decide (a = b)))
  | .neq => some (.bool (!decide (a = b)))
  | .lss => some (.bool (decide (a < b)))
  | .leq => some (.bool (decide (a ≤ b)))
  | .gtr => some (.bool (decide (a > b)))
  | .geq => some (.bool (decide (a ≥ b)))
  | _ => none

def vstr (op : BinOp) (a b : List UInt8) : Option AVal :=
  match op with
  | .add => if a.length + b.length ≤ 9223372036854775807 then some (.str (a ++ b)) else none
  | .eql => some (.bool (decide (a = b)))
  | .neq => some (.bool (!decide (a = b)))
  | .lss => some (.bool (Op.bytesLess a b))
  | .leq => some (.bool (Op.bytesLess a b || decide (a = b)))
  | .gtr => some (.bool (!(Op.bytesLess a b || decide (a = b))))
  | .geq => some (.bool (!Op.bytesLess a b))
  | _ => none

/-- Parts of structs, one by one: field types and offsets; the cells ahead. -/
def eqF (T : Tbl) (f : TypeId → AVal → AVal → Option Bool) : List (TypeId × Nat) → List AVal → List AVal → Nat → Option Bool
  | [], _, _, _ => some true
  | (t, off) :: fs, x :: xs, y :: ys, o =>
    match T t with
    | some i => if (off == o && vfits i x && vfits i y) = true then
        match f t x y with
        | some true => eqF T f fs xs ys (o + i.size)
        | r => r
      else none
    | none => none
  | _, _, _, _ => none

/-- Elements of arrays, one by one. -/
def eqA (i : TI) (f : AVal → AVal → Option Bool) : Nat → List AVal → List AVal → Option Bool
  | 0, _, _ => some true
  | n + 1, x :: xs, y :: ys =>
    if (vfits i x && vfits i y) = true then
      match f x y with
      | some true => eqA i f n xs ys
      | r => r
    else none
  | _, _, _ => none

def veqD (T : Tbl) : Nat → TypeId → AVal → AVal → Option Bool
  | 0, _, _, _ => none
  | d + 1, t, x, y =>
    match T t with
    | none => none
    | some i =>
      match i.desc, x, y with
      | .bool, .bool a, .bool b => some (a == b)
      | .int _, .int k a, .int k' b => if k = k' then some (decide (a = b)) else none
      | .string, .str a, .str b => some (decide (a = b))
      | .pointer _, .nilPtr, .nilPtr => some true
      | .pointer _, .nilPtr, .ptr _ _ _ => some false
      | .pointer _, .ptr _ _ _, .nilPtr => some false
      | .slice _, .nilSlice, .nilSlice => some true
      | .slice _, .nilSlice, .slice _ _ _ _ _ _ => some false
      | .slice _, .slice _ _ _ _ _ _, .nilSlice => some false
      | .map _ _, .nilMap, .nilMap => some true
      | .map _ _, .nilMap, .map _ => some false
      | .map _ _, .map _, .nilMap => some false
      | .func, .nilFunc, .nilFunc => some true
      | .func, .nilFunc, .func _ _ _ => some false
      | .func, .func _ _ _, .nilFunc => some false
      | .iface, .nilIface, .nilIface => some true
      | .iface, .nilIface, .iface _ _ => some false
      | .iface, .iface _ _, .nilIface => some false
      | .struct fs, .agg xs, .agg ys => eqF T (veqD T d) fs xs ys 0
      | .array n e, .agg xs, .agg ys =>
        match T e with
        | some ie => eqA ie (veqD T d e) n xs ys
        | none => none
      | _, _, _ => none

def vshift (op : BinOp) (k : IntKind) (a b : Int) : Option AVal :=
  if b < 0 then none else
  match op with
  | .shl => some (.int k (k.wrap (a * 2 ^ min b.toNat k.bits)))
  | .shr => some (.int k (a.fdiv (2 ^ min b.toNat k.bits)))
  | _ => none

def vbin (T : Tbl) (op : BinOp) (t : TypeId) (x y : AVal) : Option AVal :=
  match x, y with
  | .int k a, .int k' b =>
    match op with
    | .shl => vshift .shl k a b
    | .shr => vshift .shr k a b
    | _ => if k = k' then vint op k a b else none
  | .str a, .str b => vstr op a b
  | _, _ =>
    match op with
    | .eql => match veqD T 9 t x y with
      | some b => some (.bool b)
      | none => none
    | .neq => match veqD T 9 t x y with
      | some b => some (.bool (!b))
      | none => none
    | _ => none

def vun (op : UnOp) (x : AVal) : Option AVal :=
  match op, x with
  | .neg, .int k n => some (.int k (k.wrap (0 - n)))
  | .xor, .int k n => some (.int k (k.wrap (BitVec.ofInt k.bits (if k.signed then -1 else k.max) ^^^ BitVec.ofInt k.bits n).toNat))
  | .not, .bool b => some (.bool !b)
  | _, _ => none

section
variable {P : Program} {T : Tbl} (w : World)

theorem beq_eq_decide (a b : Int) : (a == b) = decide (a = b) := by by_cases h : a = b <;> simp [h]
theorem bne_eq_not_decide (a b : Int) : (a != b) = !decide (a = b) := by by_cases h : a = b <;> simp [h]

theorem vint_sound {t : TypeId} {op : BinOp} {k : IntKind} {a b : Int} {v : AVal} (h : vint op k a b = some v) (h1 : op ≠ .shl) (h2 : op ≠ .shr) :
    (binOp op t (.int k a) (.int k b)).run P w = .ok (cv v) w := by
  have e : binOp op t (.int k a) (.int k b) = (if k ≠ k then stuck "BinOp: operands of different kinds" else
      match op with
      | .add | .sub | .mul => Op.intArith op k a b
      | .quo | .rem => Op.intDiv op k a b
      | .and | .or | .xor | .andNot => Op.intBits op k a b
      | _ => Op.intCmp op a b) := by
    cases op <;> first | rfl | exact absurd rfl h1 | exact absurd rfl h2
  rw [e, if_neg (fun hk => hk rfl)]
  cases op <;> simp only [vint] at h <;>
    first
      | (injection h with h; subst h; simp [Op.intArith, Op.intBits, Op.intCmp, cv, beq_eq_decide, bne_eq_not_decide]; done)
      | (by_cases hb : b = 0
         · rw [if_pos hb] at h; cases h
         · rw [if_neg hb] at h; injection h with h; subst h; simp [Op.intDiv, hb, cv])
      | exact absurd rfl h1
      | exact absurd rfl h2
      | cases h

theorem toList_mk (l : List UInt8) : (⟨l.toArray⟩ : ByteArray).toList = l := by rw [ByteArray.toList_eq]
theorem beq_lists (a b : List UInt8) : (a == b) = decide (a = b) := by
  by_cases h : a = b
  · subst h; simp
  · simp [h]

theorem vstr_sound {t : TypeId} {op : BinOp} {a b : List UInt8} {v : AVal} (h : vstr op a b = some v) :
    (binOp op t (cv (.str a)) (cv (.str b))).run P w = .ok (cv v) w := by
  have key : (Op.stringOp op ⟨a.toArray⟩ ⟨b.toArray⟩).run P w = .ok (cv v) w := by
    cases op
    case add =>
      simp only [vstr] at h
      by_cases hb : a.length + b.length ≤ 9223372036854775807
      · rw [if_pos hb] at h
        injection h with h; subst h
        have e1 : (⟨a.toArray⟩ : ByteArray).size = a.length := by simp [ByteArray.size]
        have e2 : (⟨b.toArray⟩ : ByteArray).size = b.length := by simp [ByteArray.size]
        have hn : ¬ (((a.length + b.length : Nat) : Int) > IntKind.i64.max) := by
          have : IntKind.i64.max = 9223372036854775807 := by decide
          rw [this]; omega
        simp only [Op.stringOp, e1, e2, if_neg hn, Sem.run_pure, cv]
        congr 2
      · rw [if_neg hb] at h; cases h
    all_goals
      simp only [vstr] at h
      first
        | (injection h with h; subst h; simp only [Op.stringOp, cv, toList_mk, beq_lists]; rfl)
        | cases h
  cases op <;> simp only [cv, binOp] <;> exact key

end

section
variable {P : Program} {T : Tbl} (hT : TblOk P T)

theorem run_part {t : TypeId} {i : TI} (hty : TyOk P t i) {x : AVal} (hf : vfits i x = true) {X : Array Value} {l r : List Value} {off : Nat}
    (hX : X.toList = l ++ flat x ++ r) (hl : l.length = off) (w : World) : (part t X off).run P w = .ok (cv x) w := by
  simp only [vfits, Bool.and_eq_true, beq_iff_eq] at hf
  obtain ⟨hagg, hsz⟩ := hf
  simp only [part, Sem.run_bind, hty.run_isAgg, Result.andThen_ok, Sem.run_ite]
  have hx : (flat x).length = i.size := by rw [length_flat, hsz]
  split
  · rename_i hg
    rw [hagg] at hg
    simp only [hty.run_sizeOf, Result.andThen_ok, Sem.run_pure]
    cases x with
    | agg cs =>
      simp only [cv]
      congr 2
      apply Array.ext'
      rw [Array.toList_extract, hX]
      rw [flat_agg] at hx ⊢
      simp only [List.extract_eq_take_drop]
      rw [List.append_assoc, List.drop_append, List.drop_eq_nil_of_le (by omega), hl, Nat.sub_self, List.drop_zero, List.nil_append, Nat.add_sub_cancel_left, ← hx, List.take_left]
    | _ => simp [AVal.isAgg] at hg
  · rename_i hg
    have hla : x.isAgg = false := by rw [← hagg]; simpa using hg
    have : X[off]? = some (cv x) := by
      rw [← Array.getElem?_toList, hX, List.append_assoc, List.getElem?_append_right (by omega), hl, Nat.sub_self, flat_leaf hla]
      rfl
    rw [this]
    rfl

/-- What 'f' tells, '==' tells, however deep it may look. -/
def EqSays (P : Program) (D : Nat) (f : TypeId → AVal → AVal → Option Bool) : Prop :=
  ∀ t x y b, f t x y = some b → ∀ e w, (Op.equalIn (D + e) t (cv x) (cv y)).run P w = .ok b w

include hT in
theorem eqF_sound {D : Nat} {f : TypeId → AVal → AVal → Option Bool} (hf : EqSays P D f) : ∀ (fields : List Field) (xs ys : List AVal) (o : Nat) (b : Bool) (lx ly : List Value) (X Y : Array Value),
    (∀ g ∈ fields, (g.name == "_") = false) → eqF T f (fields.map fun g => (g.type, g.offset)) xs ys o = some b →
    X.toList = lx ++ flats xs → lx.length = o → Y.toList = ly ++ flats ys → ly.length = o → ∀ e w, (Op.eqFields (D + e) X Y fields).run P w = .ok b w
  | [], _, _, _, b, _, _, _, _, _, h, _, _, _, _, e, w => by simp [eqF] at h; subst h; simp [Op.eqFields]
  | g :: fields, xs, ys, o, b, lx, ly, X, Y, hn, h, hX, hlx, hY, hly, e, w => by
    cases xs with
    | nil => simp [eqF] at h
    | cons x xs =>
      cases ys with
      | nil => simp [eqF] at h
      | cons y ys =>
        simp only [List.map_cons, eqF] at h
        split at h
        · rename_i i hi
          split at h
          · rename_i hc
            simp only [Bool.and_eq_true, beq_iff_eq] at hc
            obtain ⟨⟨hoff, hfx⟩, hfy⟩ := hc
            have hty := hT _ i hi
            have hname : g.name ≠ "_" := by have := hn g (by simp); simpa using this
            rw [flats_cons] at hX hY
            have px := run_part hty hfx (X := X) (off := g.offset) (by rw [hX, ← List.append_assoc]) (by omega)
            have py := run_part hty hfy (X := Y) (off := g.offset) (by rw [hY, ← List.append_assoc]) (by omega)
            have sx : sz x = i.size := by simp only [vfits, Bool.and_eq_true, beq_iff_eq] at hfx; exact hfx.2
            have sy : sz y = i.size := by simp only [vfits, Bool.and_eq_true, beq_iff_eq] at hfy; exact hfy.2
            simp only [Op.eqFields, ne_eq, hname, not_false_eq_true, if_true, Sem.run_bind, px, py, Result.andThen_ok]
            split at h
            · rename_i hfe
              rw [hf _ _ _ _ hfe e w]
              simp only [Result.andThen_ok, Bool.not_true, Bool.false_eq_true, if_false]
              exact eqF_sound hf fields xs ys _ b (lx ++ flat x) (ly ++ flat y) X Y (fun g hg => hn g (by simp [hg])) h (by rw [hX, List.append_assoc])
                (by rw [List.length_append, length_flat]; omega) (by rw [hY, List.append_assoc]) (by rw [List.length_append, length_flat]; omega) e w
            · rename_i hne
              rw [hf _ _ _ _ h e w]
              cases b with
              | true => exact absurd h hne
              | false => simp
          · cases h
        · cases h

theorem eqA_sound {D : Nat} {f : TypeId → AVal → AVal → Option Bool} (hf : EqSays P D f) {te : TypeId} {i : TI} (hty : TyOk P te i) (c : Nat) (hc : c = i.size) : ∀ (n k : Nat) (xs ys : List AVal) (b : Bool) (lx ly : List Value) (X Y : Array Value),
    eqA i (f te) n xs ys = some b → X.toList = lx ++ flats xs → lx.length = k * c → Y.toList = ly ++ flats ys → ly.length = k * c → ∀ e w, (Op.eqItems (D + e) te c X Y (List.range' k n)).run P w = .ok b w
  | 0, _, _, _, b, _, _, _, _, h, _, _, _, _, e, w => by simp [eqA] at h; subst h; simp [Op.eqItems]
  | n + 1, k, xs, ys, b, lx, ly, X, Y, h, hX, hlx, hY, hly, e, w => by
    cases xs with
    | nil => simp [eqA] at h
    | cons x xs =>
      cases ys with
      | nil => simp [eqA] at h
      | cons y ys =>
        simp only [eqA] at h
        split at h
        · rename_i hcc
          simp only [Bool.and_eq_true] at hcc
          obtain ⟨hfx, hfy⟩ := hcc
          rw [flats_cons] at hX hY
          have px := run_part hty hfx (X := X) (off := k * c) (by rw [hX, ← List.append_assoc]) hlx
          have py := run_part hty hfy (X := Y) (off := k * c) (by rw [hY, ← List.append_assoc]) hly
          have sx : sz x = c := by simp only [vfits, Bool.and_eq_true, beq_iff_eq] at hfx; rw [hc]; exact hfx.2
          have sy : sz y = c := by simp only [vfits, Bool.and_eq_true, beq_iff_eq] at hfy; rw [hc]; exact hfy.2
          simp only [List.range'_succ, Op.eqItems, Sem.run_bind, px, py, Result.andThen_ok]
          split at h
          · rename_i hfe
            rw [hf _ _ _ _ hfe e w]
            simp only [Result.andThen_ok, Bool.not_true, Bool.false_eq_true, if_false]
            exact eqA_sound hf hty c hc n (k + 1) xs ys b (lx ++ flat x) (ly ++ flat y) X Y h (by rw [hX, List.append_assoc])
              (by rw [List.length_append, length_flat, hlx, sx, Nat.succ_mul]) (by rw [hY, List.append_assoc]) (by rw [List.length_append, length_flat, hly, sy, Nat.succ_mul]) e w
          · rename_i hne
            rw [hf _ _ _ _ h e w]
            cases b with
            | true => exact absurd h hne
            | false => simp
        · cases h

theorem desc_struct {d : TypeDesc} {fs : List (TypeId × Nat)} (h : descOf d = .struct fs) : ∃ f, d = .struct f ∧ fs = f.toList.map fun g => (g.type, g.offset) := by
  cases d <;> simp [descOf] at h; exact ⟨_, rfl, h.symm⟩
theorem desc_array {d : TypeDesc} {n e : Nat} (h : descOf d = .array n e) : d = .array n e := by
  cases d <;> simp [descOf] at h; obtain ⟨rfl, rfl⟩ := h; rfl

include hT in
theorem veqD_sound : ∀ d, EqSays P d (veqD T d)
  | 0, t, x, y, b, h => by simp [veqD] at h
  | d + 1, t, x, y, b, h => by
    intro e w
    rw [show d + 1 + e = d + e + 1 by omega]
    simp only [veqD] at h
    split at h
    · cases h
    · rename_i i hi
      have hty := hT t i hi
      obtain ⟨ds, hu, hd⟩ := hty.und
      split at h
      case h_19 =>
        rename_i fs xs ys hdesc
        rw [hdesc] at hd
        obtain ⟨f, rfl, rfl⟩ := desc_struct hd
        have hag := hty.agg (by rw [hdesc]; rfl)
        have hfo : P.fieldsOf t = f := by simp [Program.fieldsOf, hu]
        simp only [cv]
        rw [run_equalIn_struct w (d + e) t _ _ (by rw [hfo]; exact hu) hag.2.1, hfo]
        exact eqF_sound hT (veqD_sound d) f.toList xs ys 0 b [] [] _ _ (fun g hg => by
          have hb := hag.2.2
          simp only [blankField, hu, List.any_eq_false] at hb
          simpa using hb g hg) h (by simp) rfl (by simp) rfl e w
      case h_20 =>
        rename_i n te xs ys hdesc
        rw [hdesc] at hd
        have := desc_array hd; subst this
        split at h
        · rename_i ie hie
          have htye := hT te ie hie
          obtain ⟨inf, hinf, hs, _⟩ := htye.info
          simp only [cv]
          have hcell : P.cellsOf te = ie.size := by simp [Program.cellsOf, hinf, hs]
          rw [run_equalIn_array w (d + e) _ _ hu hinf, List.range_eq_range']
          exact eqA_sound (veqD_sound d) htye _ hcell n 0 xs ys b [] [] _ _ h (by simp) (by simp) (by simp) (by simp) e w
        · cases h
      all_goals first
        | (cases h; done)
        | (rename_i hdesc
           rw [hdesc] at hd
           cases ds <;> simp only [descOf, reduceCtorEq] at hd
           first
             | (injection h with h; subst h; simp [Op.equalIn, run_underlying hu, cv, cvs]; done)
             | (split at h
                · rename_i hk
                  injection h with h; subst h; subst hk
                  simp [Op.equalIn, run_underlying hu, cv, beq_eq_decide]
                · cases h)
             | (injection h with h; subst h; simp only [Op.equalIn, Sem.run_bind, run_underlying hu, cv, Result.andThen_ok, Sem.run_pure, beq_toListBytes, toList_mk, beq_lists]))

end
end Go.Esc
