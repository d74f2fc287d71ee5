/- Own work. Regions that draw their order: what is asked in one order holds in all. -/
import Derived.Test.YtbckpbdamfhehaaGreatDoorEQ
set_option linter.unusedSimpArgs false
set_option linter.unusedVariables false
namespace Go.Esc
open Go Go.RowKit

def Tbl.nil : Tbl := fun _ => none
def Tbl.cons (k : TypeId) (i : TI) (T : Tbl) : Tbl := fun t => bif Nat.beq t k then some i else T t
theorem TblOk.nil {P : Program} : TblOk P Tbl.nil := fun t i h => by simp [Tbl.nil] at h
theorem TblOk.cons {P : Program} {k : TypeId} {i : TI} {T : Tbl} (hi : TyOk P k i) (hT : TblOk P T) : TblOk P (Tbl.cons k i T) := by
  intro t j h
  simp only [Tbl.cons] at h
  cases hb : Nat.beq t k with
  | true =>
    rw [hb] at h
    simp only [cond_true] at h
    injection h with h; subst h
    rw [Nat.eq_of_beq_eq_true hb]
    exact hi
  | false => rw [hb] at h; exact hT t j h

/-! ### The check of one region -/

/-- What must be listed ahead of an operation. -/
def needs (o : Oper) : List Nat := (o.after.toList.filter (Region.binds .any)).map (·.on)

abbrev Ent := Nat × List Nat

def opIn (ops : Array Oper) (i : Nat) : List Nat :=
  match ops[i]? with
  | some o => needs o
  | none => []

def maskOf (masks : List (Nat × Nat)) (i : Nat) : Nat :=
  match masks with
  | [] => 0
  | (j, m) :: ms => bif Nat.beq j i then m else maskOf ms i

def orAll (masks : List (Nat × Nat)) : List Nat → Nat
  | [] => 0
  | p :: ps => Nat.lor (Nat.lor (Nat.shiftLeft 1 p) (maskOf masks p)) (orAll masks ps)

/-- For each operation: which ones are ahead of it, step by step. -/
def masksOf (ops : Array Oper) : List Ent → List (Nat × Nat) → List (Nat × Nat)
  | [], acc => acc
  | e :: l, acc => masksOf ops l ((e.1, orAll acc (opIn ops e.1)) :: acc)

def pairB (T : Tbl) (ops : Array Oper) (masks : List (Nat × Nat)) (z i : Ent) : Bool :=
  (!Nat.beq z.1 i.1) && (!memN i.1 (opIn ops z.1)) && (Nat.testBit (maskOf masks i.1) z.1 || match ops[z.1]?, ops[i.1]? with
    | some oz, some oi => pairOk T ops z.1 oz oi i.2
    | _, _ => false)

def pairsB (T : Tbl) (ops : Array Oper) (masks : List (Nat × Nat)) : List Ent → Bool
  | [] => true
  | z :: l => l.all (pairB T ops masks z) && pairsB T ops masks l

def coverB (ops : Array Oper) (l : List Ent) : Bool :=
  l.all (fun e => Nat.blt e.1 ops.size && (opIn ops e.1).all fun p => Nat.blt p ops.size && !Nat.beq p e.1) && Nat.ble l.length ops.size && (List.range ops.size).all fun j => l.any fun e => Nat.beq e.1 j

def regionB (T : Tbl) (ops : Array Oper) (l : List Ent) : Bool := coverB ops l && pairsB T ops (masksOf ops l []) l

inductive Ahead (ops : Array Oper) : Nat → Nat → Prop
  | one {z i : Nat} (h : z ∈ opIn ops i) : Ahead ops z i
  | more {z p i : Nat} (hp : p ∈ opIn ops i) (h : Ahead ops z p) : Ahead ops z i

theorem memN_iff (t : Nat) : ∀ {l : List Nat}, memN t l = true ↔ t ∈ l
  | [] => by simp [memN]
  | x :: l => by rw [memN_cons, memN_iff t (l := l), List.mem_cons]

theorem orAll_spec {ops : Array Oper} {masks : List (Nat × Nat)} (hm : ∀ i z, Nat.testBit (maskOf masks i) z = true → Ahead ops z i) :
    ∀ {ps : List Nat} {z : Nat}, Nat.testBit (orAll masks ps) z = true → ∃ p ∈ ps, z = p ∨ Ahead ops z p
  | [], z, h => by simp [orAll] at h
  | p :: ps, z, h => by
    simp only [orAll] at h
    have h' : Nat.testBit (((1 <<< p) ||| maskOf masks p) ||| orAll masks ps) z = true := h
    rw [Nat.testBit_or, Nat.testBit_or, Bool.or_eq_true, Bool.or_eq_true] at h'
    rcases h' with (h' | h') | h'
    · refine ⟨p, by simp, .inl ?_⟩
      rw [Nat.one_shiftLeft, Nat.testBit_two_pow] at h'
      simpa using Eq.symm (of_decide_eq_true h')
    · exact ⟨p, by simp, .inr (hm _ _ h')⟩
    · obtain ⟨q, hq, h⟩ := orAll_spec hm h'
      exact ⟨q, by simp [hq], h⟩

theorem masksOf_spec {ops : Array Oper} : ∀ {l : List Ent} {acc : List (Nat × Nat)}, (∀ i z, Nat.testBit (maskOf acc i) z = true → Ahead ops z i) →
    ∀ i z, Nat.testBit (maskOf (masksOf ops l acc) i) z = true → Ahead ops z i
  | [], acc, h => h
  | e :: l, acc, h => masksOf_spec (l := l) fun i z hz => by
    simp only [maskOf] at hz
    cases hb : Nat.beq e.1 i with
    | true =>
      rw [hb] at hz
      simp only [cond_true] at hz
      obtain ⟨p, hp, hh⟩ := orAll_spec h hz
      rw [Nat.eq_of_beq_eq_true hb] at hp
      rcases hh with rfl | hh
      · exact .one hp
      · exact .more hp hh
    | false =>
      rw [hb] at hz
      exact h i z hz

section
variable {cx : Cx} (hcx : CxOk cx) {ops : Array Oper} {B : Base} {n : Nat} {Q : Exit → Env → Heap → Prop}

/-- One order's steps, asked only of heaps that a world has. -/
def awpLL (cx : Cx) (ops : Array Oper) : List Ent → (Env → Heap → Prop) → Kont
  | [], K, _, _, env, G => K env G
  | e :: l, K, us, ld, env, G =>
    match ops[e.1]? with
    | some o => stepP cx ops (some e.1) o e.2 (LL (awpLL cx ops l K)) us ld env G
    | none => False

theorem awpLL_of {K : Env → Heap → Prop} : ∀ {l : List Ent} {us : List Nat} {ld : List Ld} {env : Env} {G : Heap}, awpL cx ops l K us ld env G → awpLL cx ops l K us ld env G
  | [], _, _, _, _, h => h
  | (i, chk) :: l, us, ld, env, G, h => by
    simp only [awpL] at h
    simp only [awpLL]
    cases ho : ops[i]? with
    | none => simp [ho] at h
    | some o =>
      simp only [ho] at h ⊢
      exact stepP_mono (K' := LL (awpLL cx ops l K)) (fun us ld env G h _ => awpLL_of h) (awpO_iff.1 h)

theorem awpLL_good {K : Env → Heap → Prop} : ∀ {l : List Ent}, Good (awpLL cx ops l K)
  | [], _, _, _, _, _, _, _, _, h => h
  | e :: l, us, us', ld, ld', env, G, hu, hl, h => by
    simp only [awpLL] at h ⊢
    split at h
    · exact stepP_good (LL.good awpLL_good) _ _ _ _ _ _ hu hl h
    · exact h

include hcx in
theorem move {K : Env → Heap → Prop} {i : Ent} {o : Oper} (hi : ops[i.1]? = some o) {post : List Ent} : ∀ {pre : List Ent},
    (∀ z ∈ pre, ∃ oz, ops[z.1]? = some oz ∧ pairOk cx.T ops z.1 oz o i.2 = true) → ∀ {us : List Nat} {ld : List Ld} {env : Env} {G : Heap}, Live G →
    awpLL cx ops (pre ++ i :: post) K us ld env G → stepP cx ops (some i.1) o i.2 (LL (awpLL cx ops (pre ++ post) K)) us ld env G
  | [], _, us, ld, env, G, hl, h => by
    simp only [List.nil_append, awpLL, hi] at h
    exact h
  | z :: pre, hz, us, ld, env, G, hl, h => by
    obtain ⟨oz, hoz, hp⟩ := hz z (by simp)
    simp only [List.cons_append, awpLL, hoz] at h
    have h' := stepP_mono (K' := LL (stepP cx ops (some i.1) o i.2 (LL (awpLL cx ops (pre ++ post) K)))) (fun us ld env G hh hlive => move hi (fun z hm => hz z (by simp [hm])) hlive (hh hlive)) h
    have := swap hcx hp awpLL_good hl h'
    refine stepP_mono (fun us ld env G hh => ?_) this
    simp only [List.cons_append, awpLL, hoz]
    exact hh

def Down (ops : Array Oper) (listed : Array Bool) : Prop := ∀ j, listed.getD j false = true → ∀ p ∈ opIn ops j, listed.getD p false = true

theorem Ahead.open_ {listed : Array Bool} (hd : Down ops listed) {z i : Nat} (h : Ahead ops z i) (hz : listed.getD z false = false) : ∃ p ∈ opIn ops i, listed.getD p false = false := by
  induction h with
  | one h => exact ⟨_, h, hz⟩
  | more hp _ ih =>
    rename_i p i _
    obtain ⟨q, hq, hqf⟩ := ih
    refine ⟨p, hp, ?_⟩
    cases hl : listed.getD p false with
    | false => rfl
    | true => rw [hd p hl q hq] at hqf; cases hqf

theorem ready_iff {listed : Array Bool} {j : Nat} : j ∈ Region.ready .any ops listed ↔ listed.getD j true = false ∧ (∃ o, ops[j]? = some o) ∧ ∀ p ∈ opIn ops j, listed.getD p false = true := by
  rw [mem_ready]
  constructor
  · rintro ⟨h0, o, ho, h⟩
    refine ⟨h0, ⟨o, ho⟩, fun p hp => ?_⟩
    simp only [opIn, ho, needs, List.mem_map, List.mem_filter] at hp
    obtain ⟨e, ⟨he, hb⟩, rfl⟩ := hp
    exact h e (by simpa using he) hb
  · rintro ⟨h0, ⟨o, ho⟩, h⟩
    refine ⟨h0, o, ho, fun e he hb => h e.on ?_⟩
    simp only [opIn, ho, needs, List.mem_map, List.mem_filter]
    exact ⟨e, ⟨by simpa using he, hb⟩, rfl⟩

structure Inv (ops : Array Oper) (listed : Array Bool) (rem : List Ent) : Prop where
  size : listed.size = ops.size
  mem : ∀ j, j < ops.size → (listed.getD j true = false ↔ ∃ c, (j, c) ∈ rem)
  lt : ∀ e ∈ rem, e.1 < ops.size
  down : Down ops listed

theorem getD_lt {listed : Array Bool} {j : Nat} (h : j < listed.size) (d d' : Bool) : listed.getD j d = listed.getD j d' := by
  simp [Array.getD, h]

include hcx in
theorem any_sound (hd : ∀ o ∈ ops.toList, ∀ t, o.dst = some t → t < n) {masks : List (Nat × Nat)} (hm : ∀ i z, Nat.testBit (maskOf masks i) z = true → Ahead ops z i) :
    ∀ (fuel : Nat) (rem : List Ent) (listed : Array Bool), rem.length ≤ fuel → rem.Pairwise (fun z i => pairB cx.T ops masks z i = true) → (∀ e ∈ rem, ∀ p ∈ opIn ops e.1, p < ops.size ∧ p ≠ e.1) → Inv ops listed rem →
    ∀ {a : Act} {w : World}, StU B n (awpLL cx ops rem (Q .normal)) a w → wpAny cx.P .any ops (lift B n Q) fuel listed a w := by
  intro fuel
  induction fuel with
  | zero =>
    intro rem listed hlen hpw _ hinv a w hst
    have : rem = [] := List.eq_nil_of_length_eq_zero (Nat.le_zero.1 hlen)
    subst this
    simp only [wpAny]
    refine ⟨List.eq_nil_iff_forall_not_mem.2 fun j hj => ?_, ?_⟩
    · obtain ⟨h0, ⟨o, ho⟩, _⟩ := ready_iff.1 hj
      obtain ⟨c, hc⟩ := (hinv.mem j (Array.getElem?_eq_some_iff.1 ho).1).1 h0
      simp at hc
    · obtain ⟨h1, h2, us, ld, env, G, _, he, hr, h⟩ := hst
      exact ⟨h1, h2, env, G, he, hr, h⟩
  | succ fuel ih =>
    intro rem listed hlen hpw hneed hinv a w hst
    simp only [wpAny]
    refine ⟨fun hnone => ?_, fun j hj => ?_⟩
    · -- nothing is ready: nothing is left
      cases rem with
      | nil =>
        obtain ⟨h1, h2, us, ld, env, G, _, he, hr, h⟩ := hst
        exact ⟨h1, h2, env, G, he, hr, h⟩
      | cons e rem =>
        exfalso
        have hlt := hinv.lt e (by simp)
        have : e.1 ∈ Region.ready .any ops listed := by
          refine ready_iff.2 ⟨(hinv.mem _ hlt).2 ⟨e.2, by simp⟩, ⟨ops[e.1], by simp [hlt]⟩, fun p hp => ?_⟩
          have ⟨hplt, hpne⟩ := hneed e (by simp) p hp
          cases hl : listed.getD p true with
          | true => rw [getD_lt (by rw [hinv.size]; exact hplt) false true]; exact hl
          | false =>
            obtain ⟨c, hc⟩ := (hinv.mem p hplt).1 hl
            rcases List.mem_cons.1 hc with hc | hc
            · exact absurd (congrArg Prod.fst hc) hpne
            · have := (List.pairwise_cons.1 hpw).1 _ hc
              simp only [pairB, Bool.and_eq_true, Bool.not_eq_true'] at this
              have h2 := this.1.2
              rw [(memN_iff p).2 hp] at h2
              cases h2
        rw [hnone] at this
        simp at this
    · obtain ⟨h0, ⟨o, ho⟩, hneeds⟩ := ready_iff.1 hj
      have hjlt := (Array.getElem?_eq_some_iff.1 ho).1
      obtain ⟨c, hc⟩ := (hinv.mem j hjlt).1 h0
      obtain ⟨pre, post, hrem⟩ := List.append_of_mem hc
      subst hrem
      have hpre : ∀ z ∈ pre, z.1 ≠ j ∧ ∃ oz, ops[z.1]? = some oz ∧ pairOk cx.T ops z.1 oz o c = true := by
        intro z hz
        have hp := (List.pairwise_append.1 hpw).2.2 z hz (j, c) (by simp)
        simp only [pairB, Bool.and_eq_true, Bool.or_eq_true, Bool.not_eq_true'] at hp
        obtain ⟨⟨hne, _⟩, hor⟩ := hp
        refine ⟨fun e => by subst e; simp at hne, ?_⟩
        rcases hor with hbit | hpo
        · have hah := hm _ _ hbit
          have hzun : listed.getD z.1 false = false := by
            have hzlt := hinv.lt z (by simp [hz])
            rw [getD_lt (by rw [hinv.size]; exact hzlt) false true]
            exact (hinv.mem _ hzlt).2 ⟨z.2, by simp [hz]⟩
          obtain ⟨p, hp, hpf⟩ := hah.open_ hinv.down hzun
          rw [hneeds p hp] at hpf
          cases hpf
        · split at hpo
          · rename_i oz oi hoz hoi
            rw [ho] at hoi
            injection hoi with hoi; subst hoi
            exact ⟨oz, hoz, hpo⟩
          · cases hpo
      have hpost : ∀ z ∈ post, z.1 ≠ j := by
        intro z hz
        have hp := (List.pairwise_cons.1 (List.pairwise_append.1 hpw).2.1).1 z hz
        simp only [pairB, Bool.and_eq_true, Bool.not_eq_true'] at hp
        intro e
        have := hp.1.1
        simp [e] at this
      have hsub : (pre ++ post).Sublist (pre ++ (j, c) :: post) := List.Sublist.append (List.Sublist.refl _) (List.sublist_cons_self _ _)
      obtain ⟨h1, h2, us, ld, env, G, hu, he, hr, h⟩ := hst
      have hstep := move hcx (i := (j, c)) ho (fun z hz => (hpre z hz).2) ⟨B, w, hr⟩ h
      have hs := awpO_sound (Q := lift B n Q) hcx (hd o (by simpa using Array.mem_of_getElem? ho)) (awpO_iff.2 hstep) h1 h2 hu he hr
      have hnext : ∀ a w, StU B n (LL (awpLL cx ops (pre ++ post) (Q .normal))) a w → wpAny cx.P .any ops (lift B n Q) fuel (listed.setIfInBounds j true) a w := by
        rintro a w ⟨k1, k2, us, ld, env, G, ku, ke, kr, kk⟩
        refine ih (pre ++ post) _ ?_ (hpw.sublist hsub) (fun e hh => hneed e (hsub.subset hh)) ⟨by simp [hinv.size], fun k hk => ?_, fun e hh => hinv.lt e (hsub.subset hh), fun k hk p hp => ?_⟩ ⟨k1, k2, us, ld, env, G, ku, ke, kr, kk ⟨B, w, kr⟩⟩
        · simp only [List.length_append, List.length_cons] at hlen ⊢
          omega
        · by_cases e : k = j
          · subst e
            have : (listed.setIfInBounds k true).getD k true = true := by simp [Array.getD, hinv.size, hk]
            rw [this]
            simp only [Bool.true_eq_false, false_iff]
            rintro ⟨c', hc'⟩
            rcases List.mem_append.1 hc' with hc' | hc'
            · exact (hpre _ hc').1 rfl
            · exact hpost _ hc' rfl
          · rw [getD_set_ne true (Ne.symm e), hinv.mem k hk]
            constructor
            · rintro ⟨c', hc'⟩
              refine ⟨c', ?_⟩
              rcases List.mem_append.1 hc' with hc' | hc'
              · exact List.mem_append.2 (.inl hc')
              · rcases List.mem_cons.1 hc' with hc' | hc'
                · exact absurd (congrArg Prod.fst hc') e
                · exact List.mem_append.2 (.inr hc')
            · rintro ⟨c', hc'⟩
              exact ⟨c', hsub.subset hc'⟩
        · have hbefore : ∀ p, listed.getD p false = true → (listed.setIfInBounds j true).getD p false = true := fun p h => getD_set_true h
          by_cases e : k = j
          · subst e; exact hbefore p (hneeds p hp)
          · rw [getD_set_ne false (Ne.symm e)] at hk
            exact hbefore p (hinv.down k hk p hp)
      unfold wpOp
      rw [ho]
      simp only
      unfold stepOp at hs
      split
      · rename_i hw
        rw [if_pos hw] at hs
        exact .inl (Oper.wp_mono hnext hs)
      · rename_i hw
        rw [if_neg hw] at hs
        exact hnext _ _ hs

theorem pairsB_spec {T : Tbl} {masks : List (Nat × Nat)} : ∀ {l : List Ent}, pairsB T ops masks l = true → l.Pairwise fun z i => pairB T ops masks z i = true
  | [], _ => .nil
  | z :: l, h => by
    simp only [pairsB, Bool.and_eq_true, List.all_eq_true] at h
    exact .cons (fun i hi => h.1 i hi) (pairsB_spec h.2)

include hcx in
theorem region_sound {id : Nat} {l : List Ent} (hm : cx.P.follows .mixedOrders = true) (hchk : regionB cx.T ops l = true) (hd : ∀ o ∈ ops.toList, ∀ t, o.dst = some t → t < n) {a : Act} {w : World}
    (h : StU B n (awpL cx ops l (Q .normal)) a w) : (Code.region id ops true).wp cx.P (lift B n Q) a w := by
  simp only [regionB, coverB, Bool.and_eq_true, List.all_eq_true, List.any_eq_true, List.mem_range, Nat.blt_eq, Nat.ble_eq, Bool.not_eq_true'] at hchk
  obtain ⟨⟨⟨hlt, hlen⟩, hcov⟩, hpairs⟩ := hchk
  obtain ⟨h1, h2, us, ld, env, G, hu, he, hr, hh⟩ := h
  refine wp_region_any hm (any_sound hcx hd (masksOf_spec (l := l) (acc := []) fun i z hz => by simp [maskOf] at hz) ops.size l _ hlen (pairsB_spec hpairs) (fun e he p hp => ?_) ⟨by simp, fun j hj => ?_, fun e he => (hlt e he).1, fun j hj => ?_⟩
    ⟨h1, h2, us, ld, env, G, hu, he, hr.drawn _, awpLL_of hh⟩)
  · have := (hlt e he).2 p hp
    exact ⟨this.1, fun e' => by rw [e'] at this; simp at this⟩
  · have : (Array.replicate ops.size false).getD j true = false := by simp [Array.getD, hj]
    rw [this]
    simp only [true_iff]
    obtain ⟨e, he, hb⟩ := hcov j hj
    exact ⟨e.2, by rw [← Nat.eq_of_beq_eq_true hb]; exact he⟩
  · exfalso
    by_cases hs : j < ops.size <;> simp [Array.getD, hs] at hj

end

/-- May this code's regions be run in every order? -/
def drawB (cx : Cx) : Code → Ann → Bool
  | .region _ ops draw, an => bif draw then match an with
    | .ord l => regionB cx.T ops l
    | _ => true
    else true
  | .seq x y, an => drawB cx x an.fst && drawB cx y an.snd
  | .cond _ x y, an => drawB cx x an.fst && drawB cx y an.snd
  | .block _ c, an => drawB cx c an
  | .loop c, an => match an with
    | .loop _ _ a => drawB cx c a
    | _ => true
  | _, _ => true

theorem drawsOk_of_check {cx : Cx} (hcx : CxOk cx) (hm : cx.P.follows .mixedOrders = true) (c : Code) : ∀ (an : Ann), drawB cx c an = true → drawsOk cx c an := by
  induction c <;> intro an h <;> try trivial
  case region id ops draw =>
    intro hdraw
    subst hdraw
    simp only [drawB, cond_true] at h
    split
    · rename_i l
      exact fun B n Q a w hd hst => region_sound hcx hm h hd hst
    · trivial
  case seq x y hx hy =>
    simp only [drawB, Bool.and_eq_true] at h
    exact ⟨hx _ h.1, hy _ h.2⟩
  case cond x y hx hy =>
    simp only [drawB, Bool.and_eq_true] at h
    exact ⟨hx _ h.1, hy _ h.2⟩
  case block id c hc =>
    simp only [drawB] at h
    exact hc _ h
  case loop c hc =>
    cases an with
    | loop live rows a => exact hc a h
    | _ => trivial

end Go.Esc
