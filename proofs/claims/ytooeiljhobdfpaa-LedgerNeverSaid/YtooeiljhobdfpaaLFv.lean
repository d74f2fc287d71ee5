import Derived.Test.YtooeiljhobdfpaaLFq
import Derived.Test.YtooeiljhobdfpaaLDd
import Derived.Test.YtooeiljhobdfpaaLHb
import Derived.Test.YtooeiljhobdfpaaLUl
import Derived.Test.YtooeiljhobdfpaaLUb
/- Own work. Chapter 13: what Fold answers: plain. -/
set_option linter.unusedSimpArgs false
set_option linter.unusedVariables false
namespace Go.Esc.M
open Go Go.Esc

theorem sum_split {f g h : UpdM → Bool} : ∀ {l : List UpdM}, (∀ u ∈ l, f u = (g u || h u) ∧ (g u && h u) = false) → sumF f l = sumF g l + sumF h l
  | [], _ => rfl
  | u :: l, hl => by
    have ih := sum_split (f := f) (g := g) (h := h) (l := l) fun x hx => hl x (by simp [hx])
    obtain ⟨h1, h2⟩ := hl u (by simp)
    unfold sumF at ih ⊢
    cases hg : g u <;> cases hh : h u <;> rw [hg, hh] at h1 h2 <;> simp [h1, hg, hh] at h2 ⊢ <;> omega
theorem stays_split (r l : List UpdM) : sumF (stays r) l = sumF (paid r) l + sumF (opens r) l := by
  refine sum_split fun u _ => ?_
  unfold opens stays paid
  by_cases h2 : remS u.id r = 2
  · simp [h2]
  · simp [h2]
/-- The balances that a commitment gives. -/
def foldX (bo : Int) (a b : List UpdM) : Int := bo - sumF (stays b) a + sumF (paid a) b
def foldY (bp : Int) (a b : List UpdM) : Int := bp + sumF (paid b) a - sumF (stays a) b
def foldO (a b : List UpdM) : List PenM := sortP (pensF true (opens b) a) ++ sortP (pensF false (opens a) b)
structure FoldM where
  o : Int
  q : Int
  l : List PenM
  e : Int
def FoldM.no (e : Int) : FoldM := ⟨0, 0, [], e⟩
def foldM (bo bp : Int) (a b : List UpdM) : FoldM :=
  if allV a = false ∨ allV b = false then .no 120
  else if foldX bo a b < 0 ∨ foldY bp a b < 0 then .no 130
  else ⟨foldX bo a b, foldY bp a b, foldO a b, 0⟩
def inC (co cp : Int) (ours peers : List UpdM) : Prop := 0 ≤ co ∧ co ≤ ours.length ∧ 0 ≤ cp ∧ cp ≤ peers.length
instance (co cp : Int) (ours peers : List UpdM) : Decidable (inC co cp ours peers) := by unfold inC; infer_instance
instance (a : Int) : Decidable (amt a) := by unfold amt; infer_instance
def foldS (bo bp : Int) (ours peers : List UpdM) (co cp : Int) : FoldM :=
  if inC co cp ours peers ∧ amt bo ∧ amt bp ∧ amt (bo + bp) then foldM bo bp (ours.take co.toNat) (peers.take cp.toNat) else .no 1
theorem allV_spec {l : List UpdM} (h : allV l = true) : ∀ u ∈ l, validU u = true := fun u hu => List.all_eq_true.1 h u hu
theorem open_bound {r l : List UpdM} (hv : ∀ u ∈ l, validU u = true) : 0 ≤ sumF (opens r) l := by
  refine (sumF_bound fun u hu hf => ?_).1
  have := (valid_spec (hv u hu)).2.2
  have hk : u.kind = 1 := by simp [opens, stays] at hf; exact hf.1.1
  constructor <;> omega
theorem fold_sum {bo bp : Int} {a b : List UpdM} : foldX bo a b + foldY bp a b + sumF (opens b) a + sumF (opens a) b = bo + bp := by
  have h1 := stays_split b a
  have h2 := stays_split a b
  unfold foldX foldY
  omega
theorem fold_le {bo bp : Int} {a b : List UpdM} (ha : ∀ u ∈ a, validU u = true) (hb : ∀ u ∈ b, validU u = true) (h : bo + bp ≤ 1152921504606846976) :
    (0 ≤ foldY bp a b → foldX bo a b ≤ 1152921504606846976) ∧ (0 ≤ foldX bo a b → foldY bp a b ≤ 1152921504606846976) := by
  have h1 := fold_sum (bo := bo) (bp := bp) (a := a) (b := b)
  have h2 := open_bound (r := b) ha
  have h3 := open_bound (r := a) hb
  constructor <;> intro _ <;> omega
theorem value_same {t : Int} (h0 : 0 ≤ t) (h1 : t ≤ 1152921504606846976) : valueW t = t ∧ cutW t = t := by
  unfold valueW cutW
  rw [if_neg (by omega), if_pos (by omega), if_neg (by omega)]
  refine ⟨rfl, ?_⟩
  split <;> omega
theorem value_neg (t : Int) : valueW t < 0 ↔ t < 0 := by
  unfold valueW
  split
  · omega
  · split <;> omega
theorem foldO_ok {a b : List UpdM} (ha : ∀ u ∈ a, u.ok) (hb : ∀ u ∈ b, u.ok) : ∀ p ∈ foldO a b, p.ok := by
  intro p hp
  rcases List.mem_append.1 hp with hp | hp
  · exact sortP_ok (pensF_ok ha) p hp
  · exact sortP_ok (pensF_ok hb) p hp
theorem foldO_len (a b : List UpdM) : (foldO a b).length ≤ a.length + b.length := by
  unfold foldO
  rw [List.length_append, sortP_len, sortP_len]
  have := pensF_len true (opens b) a
  have := pensF_len false (opens a) b
  omega
theorem foldM_ok {bo bp : Int} {a b : List UpdM} (ha : ∀ u ∈ a, u.ok) (hb : ∀ u ∈ b, u.ok) : ∀ p ∈ (foldM bo bp a b).l, p.ok := by
  intro p hp
  unfold foldM at hp
  split at hp
  · cases hp
  · split at hp
    · cases hp
    · exact foldO_ok ha hb p hp
theorem foldM_len (bo bp : Int) (a b : List UpdM) : (foldM bo bp a b).l.length ≤ a.length + b.length := by
  unfold foldM
  split
  · simp [FoldM.no]
  · split
    · simp [FoldM.no]
    · exact foldO_len a b
theorem foldS_ok {bo bp : Int} {a b : List UpdM} {co cp : Int} (ha : ∀ u ∈ a, u.ok) (hb : ∀ u ∈ b, u.ok) : ∀ p ∈ (foldS bo bp a b co cp).l, p.ok := by
  intro p hp
  unfold foldS at hp
  split at hp
  · exact foldM_ok (fun u hu => ha u (List.mem_of_mem_take hu)) (fun u hu => hb u (List.mem_of_mem_take hu)) p hp
  · cases hp
theorem foldS_len (bo bp : Int) (a b : List UpdM) (co cp : Int) : (foldS bo bp a b co cp).l.length ≤ a.length + b.length := by
  unfold foldS
  split
  · have := foldM_len bo bp (a.take co.toNat) (b.take cp.toNat)
    rw [List.length_take, List.length_take] at this
    omega
  · simp [FoldM.no]

end Go.Esc.M

/- Own work. Chapter 13: plain laws: the other side's view; nothing is lost. -/
set_option linter.unusedSimpArgs false
set_option linter.unusedVariables false
namespace Go.Esc.M
open Go Go.Esc

theorem StEq.perm {a b : List PenM} (h : StEq a b) : List.Perm a b := by
  rw [List.perm_iff_count]
  intro p
  have e : ∀ l : List PenM, l.count p = (l.filter fun q => decide (q.id = p.id)).count p := fun l => (List.count_filter (by simp)).symm
  rw [e a, e b, h p.id]
def setO (b : Bool) (p : PenM) : PenM := { p with ours := b }
theorem placed_map (b : Bool) : ∀ (l : List PenM) (p : PenM), (placedP l p).map (setO b) = placedP (l.map (setO b)) (setO b p)
  | [], p => rfl
  | q :: l, p => by
    have ih := placed_map b l p
    unfold placedP
    simp only [List.map_cons]
    show _ = if p.id < q.id then _ else _
    split
    · rfl
    · rw [List.map_cons, ih]
theorem sort_map (b : Bool) (l : List PenM) : (sortP l).map (setO b) = sortP (l.map (setO b)) := by
  have : ∀ (l acc : List PenM), (l.foldl placedP acc).map (setO b) = (l.map (setO b)).foldl placedP (acc.map (setO b)) := by
    intro l
    induction l with
    | nil => intro acc; rfl
    | cons p l ih => intro acc; rw [List.foldl_cons, ih, placed_map]; rfl
  exact this l []
theorem pensF_set (b m : Bool) (f : UpdM → Bool) (l : List UpdM) : (pensF m f l).map (setO b) = pensF b f l := by
  unfold pensF
  rw [List.map_map]
  rfl
theorem pensF_ours {m : Bool} {f : UpdM → Bool} {l : List UpdM} : ∀ p ∈ sortP (pensF m f l), p.ours = m := by
  intro p hp
  have := (sort_st (pensF m f l)).1.mem.1 hp
  obtain ⟨u, _, rfl⟩ := List.mem_map.1 this
  rfl
theorem turnS_all {b : Bool} {l : List PenM} (h : ∀ p ∈ l, p.ours = !b) : turnS b l = l.map (setO b) := by
  unfold turnS
  rw [List.filter_eq_self.2 fun p hp => by rw [h p hp]; cases b <;> rfl]
  rfl
theorem turnS_none {b : Bool} {l : List PenM} (h : ∀ p ∈ l, p.ours = b) : turnS b l = [] := by
  unfold turnS
  rw [List.filter_eq_nil_iff.2 fun p hp => by rw [h p hp]; cases b <;> decide]
  rfl
theorem turn_foldO (a b : List UpdM) : turnL (foldO a b) = foldO b a := by
  have e1 := turnS_none (b := true) (l := sortP (pensF true (opens b) a)) pensF_ours
  have e2 := turnS_all (b := true) (l := sortP (pensF false (opens a) b)) pensF_ours
  have e3 := turnS_all (b := false) (l := sortP (pensF true (opens b) a)) pensF_ours
  have e4 := turnS_none (b := false) (l := sortP (pensF false (opens a) b)) pensF_ours
  unfold turnL foldO
  rw [turnS_append, turnS_append, e1, e2, e3, e4, sort_map, sort_map, pensF_set, pensF_set, List.nil_append, List.append_nil]
theorem foldX_turn (bo : Int) (a b : List UpdM) : foldX bo b a = foldY bo a b := by
  unfold foldX foldY
  omega
/-- The other side's view. -/
theorem foldM_turn (bo bp : Int) (a b : List UpdM) : (foldM bp bo b a).e = (foldM bo bp a b).e ∧ (foldM bp bo b a).o = (foldM bo bp a b).q ∧ (foldM bp bo b a).q = (foldM bo bp a b).o ∧ (foldM bp bo b a).l = turnL (foldM bo bp a b).l := by
  unfold foldM
  rw [foldX_turn bp a b, ← foldX_turn bo b a]
  by_cases h : allV a = false ∨ allV b = false
  · rw [if_pos h, if_pos h.symm]
    exact ⟨rfl, rfl, rfl, rfl⟩
  · rw [if_neg h, if_neg fun hh => h hh.symm]
    by_cases h2 : foldX bo a b < 0 ∨ foldY bp a b < 0
    · rw [if_pos h2, if_pos h2.symm]
      exact ⟨rfl, rfl, rfl, rfl⟩
    · rw [if_neg h2, if_neg fun hh => h2 hh.symm]
      exact ⟨rfl, rfl, rfl, (turn_foldO a b).symm⟩

/-- What is open: mine first, each part by ID; amounts of 1 and more. -/
structure WholeP (left : Int) (l : List PenM) : Prop where
  one : ∀ p ∈ l, 1 ≤ p.amount
  sum : (l.map (·.amount)).sum = left
  ord : ∀ j p q, l[j]? = some p → l[j + 1]? = some q → ¬ (q.ours = true ∧ p.ours = false) ∧ (q.ours = p.ours → p.id ≤ q.id)
theorem sorted_next {l : List PenM} (h : SortedP l) {j : Nat} {p q : PenM} (hp : l[j]? = some p) (hq : l[j + 1]? = some q) : p.id ≤ q.id := by
  have h' := List.pairwise_iff_getElem.1 h
  obtain ⟨a, ha⟩ := List.getElem?_eq_some_iff.1 hp
  obtain ⟨b, hb⟩ := List.getElem?_eq_some_iff.1 hq
  have := h' j (j + 1) a b (by omega)
  rw [ha, hb] at this
  exact this
theorem sum_sort (m : Bool) (f : UpdM → Bool) (l : List UpdM) : ((sortP (pensF m f l)).map (·.amount)).sum = sumF f l := by
  have h := ((sort_st (pensF m f l)).1.perm).map (·.amount)
  have hs : ∀ {x y : List Int}, List.Perm x y → x.sum = y.sum := fun h => by
    induction h with
    | nil => rfl
    | cons a _ ih => simp [ih]
    | swap a b l => simp; omega
    | trans _ _ h1 h2 => rw [h1, h2]
  rw [hs h]
  unfold pensF sumF
  rw [List.map_map]
  rfl
theorem whole_fold {a b : List UpdM} (ha : ∀ u ∈ a, validU u = true) (hb : ∀ u ∈ b, validU u = true) : WholeP (sumF (opens b) a + sumF (opens a) b) (foldO a b) := by
  have am : ∀ {m : Bool} {r l : List UpdM}, (∀ u ∈ l, validU u = true) → ∀ p ∈ sortP (pensF m (opens r) l), 1 ≤ p.amount := by
    intro m r l hl p hp
    have := (sort_st (pensF m (opens r) l)).1.mem.1 hp
    obtain ⟨u, hu, rfl⟩ := List.mem_map.1 this
    obtain ⟨h1, h2⟩ := List.mem_filter.1 hu
    have := (valid_spec (hl u h1)).2.2
    have hk : u.kind = 1 := by simp [opens, stays] at h2; exact h2.1.1
    show 1 ≤ u.amount
    omega
  refine ⟨fun p hp => ?_, ?_, fun j p q hp hq => ?_⟩
  · rcases List.mem_append.1 hp with hp | hp
    · exact am ha p hp
    · exact am hb p hp
  · unfold foldO
    rw [List.map_append, List.sum_append, sum_sort, sum_sort]
  · unfold foldO at hp hq
    obtain ⟨A, hA⟩ : ∃ A, A = sortP (pensF true (opens b) a) := ⟨_, rfl⟩
    obtain ⟨B, hB⟩ : ∃ B, B = sortP (pensF false (opens a) b) := ⟨_, rfl⟩
    have oA : ∀ p ∈ A, p.ours = true := by rw [hA]; exact pensF_ours
    have oB : ∀ p ∈ B, p.ours = false := by rw [hB]; exact pensF_ours
    have sA : SortedP A := by rw [hA]; exact (sort_st _).2
    have sB : SortedP B := by rw [hB]; exact (sort_st _).2
    rw [← hA, ← hB] at hp hq
    by_cases h1 : j + 1 < A.length
    · rw [List.getElem?_append_left h1] at hq
      rw [List.getElem?_append_left (by omega)] at hp
      rw [oA p (List.mem_of_getElem? hp), oA q (List.mem_of_getElem? hq)]
      exact ⟨by decide, fun _ => sorted_next sA hp hq⟩
    · rw [List.getElem?_append_right (by omega)] at hq
      have e2 := oB q (List.mem_of_getElem? hq)
      by_cases h2 : j < A.length
      · rw [List.getElem?_append_left h2] at hp
        rw [e2, oA p (List.mem_of_getElem? hp)]
        exact ⟨by decide, fun h => by cases h⟩
      · rw [List.getElem?_append_right (by omega)] at hp
        rw [e2, oB p (List.mem_of_getElem? hp)]
        refine ⟨by decide, fun _ => sorted_next (j := j - A.length) sB hp ?_⟩
        rw [show j - A.length + 1 = j + 1 - A.length by omega]
        exact hq
/-- Where Fold answers a ledger. -/
theorem foldM_ok0 {bo bp : Int} {a b : List UpdM} (h : (foldM bo bp a b).e = 0) : (∀ u ∈ a, validU u = true) ∧ (∀ u ∈ b, validU u = true) ∧ 0 ≤ foldX bo a b ∧ 0 ≤ foldY bp a b ∧ foldM bo bp a b = ⟨foldX bo a b, foldY bp a b, foldO a b, 0⟩ := by
  unfold foldM at h ⊢
  split at h
  · cases h
  · rename_i h1
    rw [if_neg h1]
    split at h
    · cases h
    · rename_i h2
      rw [if_neg h2]
      refine ⟨allV_spec ?_, allV_spec ?_, by omega, by omega, rfl⟩
      · cases hh : allV a with
        | true => rfl
        | false => exact absurd (.inl hh) h1
      · cases hh : allV b with
        | true => rfl
        | false => exact absurd (.inr hh) h1
theorem whole_foldM {bo bp : Int} {a b : List UpdM} (h : (foldM bo bp a b).e = 0) : 0 ≤ (foldM bo bp a b).o ∧ 0 ≤ (foldM bo bp a b).q ∧ WholeP (bo + bp - (foldM bo bp a b).o - (foldM bo bp a b).q) (foldM bo bp a b).l := by
  obtain ⟨ha, hb, h1, h2, he⟩ := foldM_ok0 h
  rw [he]
  refine ⟨h1, h2, ?_⟩
  have hs := fold_sum (bo := bo) (bp := bp) (a := a) (b := b)
  have e : bo + bp - foldX bo a b - foldY bp a b = sumF (opens b) a + sumF (opens a) b := by omega
  show WholeP (bo + bp - foldX bo a b - foldY bp a b) (foldO a b)
  rw [e]
  exact whole_fold ha hb

end Go.Esc.M

/- Own work. Chapter 13: plain laws: two lists that grow: nobody ever falls below 0. -/
set_option linter.unusedSimpArgs false
set_option linter.unusedVariables false
namespace Go.Esc.M
open Go Go.Esc

theorem take_split {α : Type} {l : List α} {n m : Nat} (h : n ≤ m) : l.take n ++ (l.take m).drop n = l.take m := by
  have : l.take n = (l.take m).take n := by rw [List.take_take, Nat.min_eq_left h]
  rw [this, List.take_append_drop]
theorem sumF_append (f : UpdM → Bool) (a b : List UpdM) : sumF f (a ++ b) = sumF f a + sumF f b := by
  unfold sumF
  rw [List.filter_append, List.map_append, List.sum_append]
theorem sumF_nn {f : UpdM → Bool} {l : List UpdM} (h : ∀ u ∈ l, 0 ≤ u.amount) : 0 ≤ sumF f l := by
  unfold sumF
  induction l with
  | nil => simp
  | cons u l ih =>
    have ih := ih fun x hx => h x (by simp [hx])
    have := h u (by simp)
    simp only [List.filter_cons]
    split
    · simp only [List.map_cons, List.sum_cons]; omega
    · exact ih
theorem sumF_mono {f g : UpdM → Bool} {l : List UpdM} (h : ∀ u ∈ l, 0 ≤ u.amount) (hfg : ∀ u ∈ l, f u = true → g u = true) : sumF f l ≤ sumF g l := by
  unfold sumF
  induction l with
  | nil => simp
  | cons u l ih =>
    have ih := ih (fun x hx => h x (by simp [hx])) fun x hx => hfg x (by simp [hx])
    have h1 := h u (by simp)
    have h2 := hfg u (by simp)
    simp only [List.filter_cons]
    cases hf : f u with
    | true => rw [h2 hf]; simp; omega
    | false => cases hg : g u <;> simp <;> omega
theorem sumF_zero {f : UpdM → Bool} {l : List UpdM} (h : ∀ u ∈ l, f u = false) : sumF f l = 0 := by
  unfold sumF
  rw [List.filter_eq_nil_iff.2 fun u hu => by rw [h u hu]; decide]
  rfl
theorem sumF_take_le {f : UpdM → Bool} {l : List UpdM} (h : ∀ u ∈ l, 0 ≤ u.amount) (n : Nat) : sumF f (l.take n) ≤ sumF f l := by
  have e : sumF f l = sumF f (l.take n) + sumF f (l.drop n) := by rw [← sumF_append, List.take_append_drop]
  have := sumF_nn (f := f) (l := l.drop n) fun u hu => h u (List.mem_of_mem_drop hu)
  omega
/-- A removal stays the first. -/
theorem remS_more {id : Int} {l : List UpdM} {n m : Nat} (h : n ≤ m) (h0 : remS id (l.take n) ≠ 0) : remS id (l.take m) = remS id (l.take n) := by
  have e : l.take m = l.take n ++ (l.take m).drop n := (take_split h).symm
  rw [e, remS_append, if_neg h0]
theorem remS_there {id : Int} {l : List UpdM} (h : remS id l ≠ 0) : ∃ u ∈ l, u.kind ≠ 1 ∧ u.id = id := by
  induction l with
  | nil => exact absurd rfl h
  | cons u l ih =>
    unfold remS at h
    split at h
    · rename_i hr
      simp only [isRem, Bool.and_eq_true, decide_eq_true_eq] at hr
      exact ⟨u, by simp, hr.1, hr.2.1⟩
    · obtain ⟨w, h1, h2⟩ := ih h
      exact ⟨w, by simp [h1], h2⟩
theorem valid_nn {u : UpdM} (h : validU u = true) : 0 ≤ u.amount := by
  have := (valid_spec h).2.2
  omega

def addsN (l : List UpdM) : Nat := (l.filter fun u => decide (u.kind = 1)).length
theorem addsN_le (l : List UpdM) : addsN l ≤ l.length := List.length_filter_le _ _
theorem addsN_append (a b : List UpdM) : addsN (a ++ b) = addsN a + addsN b := by unfold addsN; rw [List.filter_append, List.length_append]
def SB (base : Int) (mine others : List UpdM) (fm fo : Nat) : Int := base - sumF (stays (others.take fo)) mine + sumF (paid (mine.take fm)) others
/-- Each add's number is how many stand ahead of it. -/
def idsOk (l : List UpdM) : Prop := ∀ j u, l[j]? = some u → u.kind = 1 → u.id = ((addsN (l.take j) : Nat) : Int)
/-- Each removal speaks of an add among the other side's first. -/
def remsOk (mine others : List UpdM) (fo : Nat) : Prop := ∀ u ∈ mine, u.kind ≠ 1 → ∃ w ∈ others.take fo, w.kind = 1 ∧ w.id = u.id
structure BookI (b0 b1 : Int) (l0 l1 : List UpdM) (f0 f1 : Nat) : Prop where
  ok0 : ∀ u ∈ l0, u.ok
  ok1 : ∀ u ∈ l1, u.ok
  v0 : ∀ u ∈ l0, validU u = true
  v1 : ∀ u ∈ l1, validU u = true
  le0 : f0 ≤ l0.length
  le1 : f1 ≤ l1.length
  m0 : l0.length ≤ 2048
  m1 : l1.length ≤ 2048
  i0 : idsOk l0
  i1 : idsOk l1
  r0 : remsOk l0 l1 f1
  r1 : remsOk l1 l0 f0
  s0 : 0 ≤ SB b0 l0 l1 f0 f1
  s1 : 0 ≤ SB b1 l1 l0 f1 f0
  b0n : 0 ≤ b0
  b1n : 0 ≤ b1
  bs : b0 + b1 ≤ 1152921504606846976
theorem BookI.swap {b0 b1 : Int} {l0 l1 : List UpdM} {f0 f1 : Nat} (h : BookI b0 b1 l0 l1 f0 f1) : BookI b1 b0 l1 l0 f1 f0 :=
  ⟨h.ok1, h.ok0, h.v1, h.v0, h.le1, h.le0, h.m1, h.m0, h.i1, h.i0, h.r1, h.r0, h.s1, h.s0, h.b1n, h.b0n, by have := h.bs; omega⟩

theorem ids_unique {l : List UpdM} (h : idsOk l) {i j : Nat} {u w : UpdM} (hi : l[i]? = some u) (hj : l[j]? = some w) (hu : u.kind = 1) (hw : w.kind = 1) (he : u.id = w.id) : i = j := by
  have key : ∀ {i j : Nat} {u w : UpdM}, l[i]? = some u → l[j]? = some w → u.kind = 1 → w.kind = 1 → u.id = w.id → i < j → False := by
    intro i j u w hi hj hu hw he hlt
    have h1 := h i u hi hu
    have h2 := h j w hj hw
    have e : l.take j = l.take (i + 1) ++ (l.take j).drop (i + 1) := (take_split hlt).symm
    have h3 : addsN (l.take (i + 1)) = addsN (l.take i) + 1 := by
      rw [List.take_add_one, hi, addsN_append]
      simp [addsN, hu]
    rw [e, addsN_append, h3] at h2
    omega
  rcases Nat.lt_trichotomy i j with h1 | h1 | h1
  · exact (key hi hj hu hw he h1).elim
  · exact h1
  · exact (key hj hi hw hu he.symm h1).elim

theorem paid_late {mine others : List UpdM} {fm fo m : Nat} (hi : idsOk others) (hr : remsOk mine others fo) (hm : fo ≤ m) : ∀ u ∈ others.drop m, paid (mine.take fm) u = false := by
  intro u hu
  cases hp : paid (mine.take fm) u with
  | false => rfl
  | true =>
    exfalso
    simp only [paid, Bool.and_eq_true, decide_eq_true_eq] at hp
    obtain ⟨x, hx, hx1, hx2⟩ := remS_there (by rw [hp.2]; decide : remS u.id (mine.take fm) ≠ 0)
    obtain ⟨w, hw, hw1, hw2⟩ := hr x (List.mem_of_mem_take hx) hx1
    obtain ⟨i, hi1⟩ := List.getElem?_of_mem hw
    obtain ⟨j, hj1⟩ := List.getElem?_of_mem hu
    have hil : i < fo := by
      have := (List.getElem?_eq_some_iff.1 hi1).1
      rw [List.length_take] at this
      omega
    rw [List.getElem?_take_of_lt hil] at hi1
    rw [List.getElem?_drop] at hj1
    have := ids_unique hi hi1 hj1 hw1 hp.1 (by rw [hw2, hx2])
    omega

theorem fold_ge {base : Int} {mine others : List UpdM} {fm fo n m : Nat} (v0 : ∀ u ∈ mine, validU u = true) (v1 : ∀ u ∈ others, validU u = true) (hi : idsOk others) (hr : remsOk mine others fo) (hn : fm ≤ n) (hm : fo ≤ m) :
    SB base mine others fm fo ≤ foldX base (mine.take n) (others.take m) := by
  unfold SB foldX
  have h1 : sumF (stays (others.take m)) (mine.take n) ≤ sumF (stays (others.take fo)) mine := by
    refine Int.le_trans (sumF_mono (fun u hu => valid_nn (v0 u (List.mem_of_mem_take hu))) fun u hu hs => ?_) (sumF_take_le (fun u hu => valid_nn (v0 u hu)) n)
    simp only [stays, Bool.and_eq_true, decide_eq_true_eq, Bool.not_eq_true', decide_eq_false_iff_not] at hs ⊢
    refine ⟨hs.1, fun h3 => hs.2 ?_⟩
    rw [remS_more hm (by rw [h3]; decide), h3]
  have h2 : sumF (paid (mine.take fm)) others ≤ sumF (paid (mine.take n)) (others.take m) := by
    have e : sumF (paid (mine.take fm)) others = sumF (paid (mine.take fm)) (others.take m) + sumF (paid (mine.take fm)) (others.drop m) := by rw [← sumF_append, List.take_append_drop]
    rw [e, sumF_zero (paid_late hi hr hm), Int.add_zero]
    refine sumF_mono (fun u hu => valid_nn (v1 u (List.mem_of_mem_take hu))) fun u hu hs => ?_
    simp only [paid, Bool.and_eq_true, decide_eq_true_eq] at hs ⊢
    refine ⟨hs.1, ?_⟩
    rw [remS_more hn (by rw [hs.2]; decide), hs.2]
  omega

/-- Fold takes all counts that are at least the irrevocable ones. -/
theorem BookI.taken {b0 b1 : Int} {l0 l1 : List UpdM} {f0 f1 : Nat} (h : BookI b0 b1 l0 l1 f0 f1) {n m : Nat} (hn : f0 ≤ n) (hn2 : n ≤ l0.length) (hm : f1 ≤ m) (hm2 : m ≤ l1.length) : (foldS b0 b1 l0 l1 n m).e = 0 ∧ foldS b0 b1 l0 l1 n m = foldM b0 b1 (l0.take n) (l1.take m) := by
  have e : foldS b0 b1 l0 l1 n m = foldM b0 b1 (l0.take n) (l1.take m) := by
    unfold foldS
    rw [if_pos ⟨⟨by omega, by omega, by omega, by omega⟩, ⟨h.b0n, by have := h.bs; have := h.b1n; omega⟩, ⟨h.b1n, by have := h.bs; have := h.b0n; omega⟩, by have := h.b0n; have := h.b1n; omega, h.bs⟩]
    rfl
  refine ⟨?_, e⟩
  rw [e]
  have h0 := fold_ge (base := b0) h.v0 h.v1 h.i1 h.r0 hn hm
  have h1 := fold_ge (base := b1) h.v1 h.v0 h.i0 h.r1 hm hn
  have g0 := h.s0
  have g1 := h.s1
  rw [foldX_turn] at h1
  have a0 : allV (l0.take n) = true := List.all_eq_true.2 fun u hu => h.v0 u (List.mem_of_mem_take hu)
  have a1 : allV (l1.take m) = true := List.all_eq_true.2 fun u hu => h.v1 u (List.mem_of_mem_take hu)
  unfold foldM
  rw [if_neg (by rw [a0, a1]; simp), if_neg (by omega)]

theorem SB_le {b0 b1 : Int} {l0 l1 : List UpdM} {f0 f1 : Nat} (h : BookI b0 b1 l0 l1 f0 f1) : SB b0 l0 l1 f0 f1 ≤ b0 + b1 := by
  have h1 := stays_split (l1.take f1) l0
  have h2 := stays_split (l0.take f0) l1
  have h3 := open_bound (r := l1.take f1) h.v0
  have h4 := open_bound (r := l0.take f0) h.v1
  have h5 := h.s1
  unfold SB at h5 ⊢
  omega

theorem take_snoc (l : List UpdM) (u : UpdM) {n : Nat} (h : n ≤ l.length) : (l ++ [u]).take n = l.take n := by
  rw [List.take_append_of_le_length h]
theorem ids_snoc {l : List UpdM} {u : UpdM} (h : idsOk l) (hu : u.kind = 1 → u.id = ((addsN l : Nat) : Int)) : idsOk (l ++ [u]) := by
  intro j w hj hw
  by_cases hjl : j < l.length
  · rw [List.getElem?_append_left hjl] at hj
    rw [take_snoc l u (by omega)]
    exact h j w hj hw
  · have hb := (List.getElem?_eq_some_iff.1 hj).1
    rw [List.length_append, List.length_singleton] at hb
    have : j = l.length := by omega
    subst this
    rw [List.getElem?_append_right (by omega)] at hj
    simp at hj
    subst hj
    rw [take_snoc l u (Nat.le_refl _), List.take_length]
    exact hu hw
theorem rems_snoc {mine others : List UpdM} {fo : Nat} {u : UpdM} (h : remsOk mine others fo) (hu : u.kind ≠ 1 → ∃ w ∈ others.take fo, w.kind = 1 ∧ w.id = u.id) : remsOk (mine ++ [u]) others fo := by
  intro x hx hk
  rcases List.mem_append.1 hx with hx | hx
  · exact h x hx hk
  · rw [List.mem_singleton.1 hx] at hk ⊢
    exact hu hk
theorem mem_snoc {α : Type} {Pr : α → Prop} {l : List α} {u : α} (h : ∀ x ∈ l, Pr x) (hu : Pr u) : ∀ x ∈ l ++ [u], Pr x := by
  intro x hx
  rcases List.mem_append.1 hx with hx | hx
  · exact h x hx
  · rw [List.mem_singleton.1 hx]; exact hu

/-- An add of what is spendable. -/
theorem BookI.add {b0 b1 : Int} {l0 l1 : List UpdM} {f0 f1 : Nat} (h : BookI b0 b1 l0 l1 f0 f1) (hl : l0.length < 2048) {u : UpdM} (hk : u.kind = 1) (hid : u.id = ((addsN l0 : Nat) : Int)) (ho : u.ok) (hv : validU u = true) (ha : u.amount ≤ SB b0 l0 l1 f0 f1) : BookI b0 b1 (l0 ++ [u]) l1 f0 f1 := by
  have hnn := valid_nn hv
  refine ⟨mem_snoc h.ok0 ho, h.ok1, mem_snoc h.v0 hv, h.v1, by rw [List.length_append]; have := h.le0; omega, h.le1, by rw [List.length_append, List.length_singleton]; omega, h.m1, ids_snoc h.i0 fun _ => hid, h.i1, rems_snoc h.r0 fun hh => absurd hk hh, ?_, ?_, ?_, h.b0n, h.b1n, h.bs⟩
  · rw [remsOk, take_snoc l0 u h.le0]; exact h.r1
  · unfold SB at ha ⊢
    rw [take_snoc l0 u h.le0, sumF_append]
    have : sumF (stays (l1.take f1)) [u] ≤ u.amount := by
      unfold sumF
      simp only [List.filter_cons, List.filter_nil]
      split
      · simp
      · simp; exact hnn
    omega
  · have h1 := h.s1
    unfold SB at h1 ⊢
    rw [take_snoc l0 u h.le0, sumF_append]
    have := sumF_nn (f := paid (l1.take f1)) (l := [u]) fun x hx => by rw [List.mem_singleton.1 hx]; exact hnn
    omega
/-- A removal of what is irrevocable. -/
theorem BookI.rem {b0 b1 : Int} {l0 l1 : List UpdM} {f0 f1 : Nat} (h : BookI b0 b1 l0 l1 f0 f1) (hl : l0.length < 2048) {u : UpdM} (hk : u.kind ≠ 1) (hr : ∃ w ∈ l1.take f1, w.kind = 1 ∧ w.id = u.id) (ho : u.ok) (hv : validU u = true) : BookI b0 b1 (l0 ++ [u]) l1 f0 f1 := by
  refine ⟨mem_snoc h.ok0 ho, h.ok1, mem_snoc h.v0 hv, h.v1, by rw [List.length_append]; have := h.le0; omega, h.le1, by rw [List.length_append, List.length_singleton]; omega, h.m1, ids_snoc h.i0 fun hh => absurd hh hk, h.i1, rems_snoc h.r0 fun _ => hr, ?_, ?_, ?_, h.b0n, h.b1n, h.bs⟩
  · rw [remsOk, take_snoc l0 u h.le0]; exact h.r1
  · have h1 := h.s0
    unfold SB at h1 ⊢
    rw [take_snoc l0 u h.le0, sumF_append, sumF_zero (l := [u]) fun x hx => by rw [List.mem_singleton.1 hx]; simp [stays, hk]]
    omega
  · have h1 := h.s1
    unfold SB at h1 ⊢
    rw [take_snoc l0 u h.le0, sumF_append, sumF_zero (l := [u]) fun x hx => by rw [List.mem_singleton.1 hx]; simp [paid, hk]]
    omega
/-- More becomes irrevocable. -/
theorem BookI.fix {b0 b1 : Int} {l0 l1 : List UpdM} {f0 f1 g : Nat} (h : BookI b0 b1 l0 l1 f0 f1) (hg : f0 ≤ g) (hg2 : g ≤ l0.length) : BookI b0 b1 l0 l1 g f1 := by
  refine ⟨h.ok0, h.ok1, h.v0, h.v1, hg2, h.le1, h.m0, h.m1, h.i0, h.i1, h.r0, ?_, ?_, ?_, h.b0n, h.b1n, h.bs⟩
  · intro u hu hk
    obtain ⟨w, hw, h1⟩ := h.r1 u hu hk
    refine ⟨w, ?_, h1⟩
    rw [← take_split hg]
    exact List.mem_append.2 (.inl hw)
  · have h1 := h.s0
    unfold SB at h1 ⊢
    have := sumF_mono (f := paid (l0.take f0)) (g := paid (l0.take g)) (l := l1) (fun u hu => valid_nn (h.v1 u hu)) fun u hu hs => by
      simp only [paid, Bool.and_eq_true, decide_eq_true_eq] at hs ⊢
      refine ⟨hs.1, ?_⟩
      rw [remS_more hg (by rw [hs.2]; decide), hs.2]
    omega
  · have h1 := h.s1
    unfold SB at h1 ⊢
    have := sumF_mono (f := stays (l0.take g)) (g := stays (l0.take f0)) (l := l1) (fun u hu => valid_nn (h.v1 u hu)) fun u hu hs => by
      simp only [stays, Bool.and_eq_true, decide_eq_true_eq, Bool.not_eq_true', decide_eq_false_iff_not] at hs ⊢
      refine ⟨hs.1, fun h3 => hs.2 ?_⟩
      rw [remS_more hg (by rw [h3]; decide), h3]
    omega

/-- What the program says is spendable. -/
theorem spend_SB {base : Int} {mine others : List UpdM} {fm fo : Nat} (v0 : ∀ u ∈ mine, validU u = true) (v1 : ∀ u ∈ others, validU u = true) (hb : 0 ≤ base) (hb2 : base ≤ 1152921504606846976) :
    spendS base mine others fm fo = cutW (SB base mine others fm fo) := by
  unfold spendS
  rw [if_neg (by omega)]
  have h1 : (addsL (tSpend1 others fo) mine).sum = sumF (stays (others.take fo)) mine := by
    unfold addsL sumF
    congr 2
    refine List.filter_congr fun u hu => ?_
    rw [v0 u hu]
    simp [stays, tSpend1, firstN]
    rfl
  have h2 : (addsL (tSpend2 mine fm) others).sum = sumF (paid (mine.take fm)) others := by
    unfold addsL sumF
    congr 2
    refine List.filter_congr fun u hu => ?_
    rw [v1 u hu]
    simp [paid, tSpend2, firstN]
    rfl
  have h3 : capB base = base := by unfold capB; rw [if_neg (by omega)]
  rw [h1, h2, h3]
  rfl

end Go.Esc.M

/- Own work. Chapter 13: what the laws themselves do: lists lent, kept, changed; ledgers compared. -/
set_option linter.unusedSimpArgs false
set_option linter.unusedVariables false
namespace Go.Esc.M
open Go Go.Esc

section
variable {F0 : List AId} {G0 G : Heap} {ps : List LP} {Q : AVal → Heap → Prop}

set_option maxHeartbeats 1000000 in
theorem escrowlaw13_SameLedger.use {o q o' q' : Int} {v v' : AVal} {l l' : List PenM} (hl : IsSl 35 G v (l.map PenM.av)) (hl' : IsSl 35 G v' (l'.map PenM.av)) (hok : ∀ p ∈ l, p.ok) (hok' : ∀ p ∈ l', p.ok) (hlen : l.length ≤ 9223372036854775807)
    (hQ : ∀ b G', (b = true ↔ o = o' ∧ q = q' ∧ l = l') → Ch [] G [] G' → Q (.bool b) G') : ACalls P escrowlaw13_SameLedger.n [ledV o q v, ledV o' q' v'] G Q := by
  have hv := sl_leaf hl
  have hv' := sl_leaf hl'
  refine escrowlaw13_SameLedger.sound ?_
  unfold escrowlaw13_SameLedger.S
  intro i1 f1
  have s1 := (Sp.nil G).row f1 (ledV o q v)
  intro i3 f3
  have s3 := s1.row f3 (ledV o' q' v')
  revert s3
  generalize Heap.upd _ i3 (.own (ledV o' q' v')) = G4
  intro s3 J37
  obtain ⟨a0, a1, a2, _⟩ := led_load (i := 1) s3 rfl hv
  obtain ⟨b0, b1, b2, _⟩ := led_load (i := 0) s3 rfl hv'
  have ln : ∀ {G' : Heap}, Ch [] G [] G' → vlen T G' t_sl_api_Pending v = some (.int .i64 (l.length : Nat)) := fun c => by
    rw [(hl.ch' c).len (i := ti_sl_api_Pending) T_sl_api_Pending rfl, List.length_map]
  have ln' : ∀ {G' : Heap}, Ch [] G [] G' → vlen T G' t_sl_api_Pending v' = some (.int .i64 (l'.length : Nat)) := fun c => by
    rw [(hl'.ch' c).len (i := ti_sl_api_Pending) T_sl_api_Pending rfl, List.length_map]
  have bad : ¬ (o = o' ∧ q = q' ∧ l = l') → J37 (.bool true) G4 := by
    intro h
    simp -zeta only [J37, brB_true]
    exact hQ false _ (by simp [h]) s3.ch
  have good : o = o' → q = q' → l.length = l'.length → J37 (.bool false) G4 := by
    intro h1 h2 h3
    simp -zeta only [J37, brB_false]
    intro R18 hR18
    have loop : ∀ (n j : Nat), l.length - j = n → j ≤ l.length → l.take j = l'.take j → R18 [.ptr i1 [] 0, .ptr i3 [] 0, .int .i64 (j : Int)] G4 := by
      intro n
      induction n with
      | zero =>
        intro j hn hj he
        have : j = l.length := by omega
        subst this
        rw [List.take_length, h3, List.take_length] at he
        refine hR18 _ _ _ _ ?_
        show wv (vload T G4 t_sl_api_Pending (.ptr i1 [2] 2)) _
        rw [a2, wv_some, ln s3.ch, wv_some, vbin_lss, wv_some, brB_dec]
        exact ⟨fun h => absurd h (by omega), fun _ => hQ true _ (by simp [h1, h2, he]) s3.ch⟩
      | succ n ih =>
        intro j hn hj he
        obtain ⟨p, hp⟩ : ∃ p, l[j]? = some p := ⟨_, List.getElem?_eq_getElem (by omega)⟩
        obtain ⟨p', hp'⟩ : ∃ p, l'[j]? = some p := ⟨_, List.getElem?_eq_getElem (by omega)⟩
        obtain ⟨a, ha, hla⟩ := pen_at (hl.ch' s3.ch) hp
        obtain ⟨a', ha', hla'⟩ := pen_at (hl'.ch' s3.ch) hp'
        refine hR18 _ _ _ _ ?_
        show wv (vload T G4 t_sl_api_Pending (.ptr i1 [2] 2)) _
        rw [a2, wv_some, ln s3.ch, wv_some, vbin_lss, wv_some, brB_dec]
        refine ⟨fun _ => ?_, fun h => absurd (by omega) h⟩
        show wv (vload T G4 t_sl_api_Pending (.ptr i1 [2] 2)) _
        rw [a2, wv_some, ha, wv_some, hla, wv_some]
        show wv (vload T G4 t_sl_api_Pending (.ptr i3 [2] 2)) _
        rw [b2, wv_some, ha', wv_some, hla', wv_some, vbin_pneq (hok p (List.mem_of_getElem? hp)) (hok' p' (List.mem_of_getElem? hp')), wv_some, brB_ndec]
        refine ⟨fun h => hQ false _ ?_ s3.ch, fun h => ?_⟩
        · refine ⟨fun hh => absurd hh (by decide), fun hh => absurd ?_ h⟩
          have h4 := hh.2.2
          subst h4
          rw [hp] at hp'
          injection hp'
        · subst h
          rw [vbin_add, wv_some, i64_in (by omega) (by omega)]
          refine ih (j + 1) (by omega) (by omega) ?_
          rw [List.take_add_one, List.take_add_one, hp, hp', he]
    exact loop _ 0 rfl (by omega) rfl
  rw [a0, wv_some, b0, wv_some, vbin_neq, wv_some, brB_ndec]
  refine ⟨fun h => bad fun hh => h hh.1, fun h1 => ?_⟩
  rw [a1, wv_some, b1, wv_some, vbin_neq, wv_some, brB_ndec]
  refine ⟨fun h => bad fun hh => h hh.2.1, fun h2 => ?_⟩
  rw [a2, wv_some, ln s3.ch, wv_some, b2, wv_some, ln' s3.ch, wv_some, vbin_neq, wv_some]
  by_cases h3 : ((l.length : Nat) : Int) = ((l'.length : Nat) : Int)
  · rw [decide_eq_true h3]
    exact good h1 h2 (by omega)
  · rw [decide_eq_false h3]
    exact bad fun hh => h3 (by rw [hh.2.2])


def u7 : UpdM := ⟨-7, 0, 0, h0, []⟩
theorem u7_ok : u7.ok := ⟨⟨by decide, by decide⟩, ⟨by decide, by decide⟩, ⟨by decide, by decide⟩, rfl, by decide⟩
theorem grow_upd {i : Nat} {v : AVal} {l : List UpdM} {p : UpdM} {K : AVal → Heap → Prop} (hs : Sp F0 G0 ps G) (hi : ps[i]? = some (OwnL 36 v (l.map UpdM.av))) (ho : p.ok) (hl : (l.length + 1) * 72 ≤ 140737488355328) (hK : ∀ v' G', Sp F0 G0 (ps.set i (OwnL 36 v' ((l ++ [p]).map UpdM.av))) G' → K v' G') :
    aBuildSlice T t_sl_api_Update 1 [(0, p.av)] G fun w G' => aAppend T G' t_sl_api_Update t_sl_api_Update v w K := by
  have hb : ti_api_Update.bytes = 72 := rfl
  refine growV (ie := ti_api_Update) T_sl_api_Update rfl T_api_Update rfl (by decide) hs hi (UpdM.sz ho) (UpdM.okv p) (by decide) (by rw [hb, List.length_map]; omega) fun s' G' h => hK s' G' ?_
  rw [List.map_append]
  exact h
theorem growL_upd {i : Nat} {v x : AVal} {l l' : List UpdM} {K : AVal → Heap → Prop} (hs : Sp F0 G0 ps G) (hi : ps[i]? = some (OwnL 36 v (l.map UpdM.av))) (hx : IsSl 36 G x (l'.map UpdM.av)) (ho : ∀ u ∈ l', u.ok) (hl : (l.length + l'.length) * 72 ≤ 140737488355328) (hK : ∀ v' G', Sp F0 G0 (ps.set i (OwnL 36 v' ((l ++ l').map UpdM.av))) G' → K v' G') :
    aAppend T G t_sl_api_Update t_sl_api_Update v x K := by
  have hb : ti_api_Update.bytes = 72 := rfl
  refine growL (si := ti_sl_api_Update) (ie := ti_api_Update) T_sl_api_Update rfl T_api_Update rfl (by decide) T_sl_api_Update (.inr ⟨_, rfl⟩) hs hi hx.elems (upds_uni ho).1 (upds_uni ho).2 (by rw [hb, List.length_map, List.length_map]; exact hl) fun s' G' h => hK s' G' ?_
  rw [List.map_append]
  exact h

theorem escrowlaw13_lend.use {v : AVal} {l : List UpdM} (hl : IsSl 36 G v (l.map UpdM.av)) (hok : ∀ u ∈ l, u.ok) (hlen : l.length ≤ 1048576)
    (hQ : ∀ w u G', LentG w u l.length (l.length + 1) → Sp [] G [OwnL 36 u ((l ++ [u7]).map UpdM.av)] G' → Q w G') : ACalls P escrowlaw13_lend.n [v] G Q := by
  refine escrowlaw13_lend.sound ?_
  unfold escrowlaw13_lend.S
  refine growL_upd (i := 0) (l := []) ((Sp.nil G).nilL 36) rfl hl hok (by simp; omega) fun v1 G2 s2 => ?_
  have s2 : Sp [] G [OwnL 36 v1 (l.map UpdM.av)] G2 := s2
  refine wv_of (v := u7.av) rfl ?_
  refine grow_upd (i := 0) s2 rfl u7_ok (by omega) fun v5 G6 s6 => ?_
  refine wv_of (upd_len (hl.ch' s6.ch)) ?_
  obtain ⟨w, hw, hL⟩ := LentG.mk (k := .i64) (m := l.length) T_sl_api_Update rfl T_api_Update (OwnL.own (i := 0) s6 rfl) rfl (by simp)
  refine wv_of hw ?_
  rw [List.length_map, List.length_append, List.length_singleton] at hL
  exact hQ w v5 _ hL s6

theorem lent_is {w v : AVal} {l : List UpdM} {m : UpdM} (L : LentG w v l.length (l.length + 1)) (ho : Own 36 G v ((l ++ [m]).map UpdM.av)) : CapSl 36 G w (l.map UpdM.av) := by
  have := L.cap (by simp) ho
  rwa [List.map_append, List.take_left' (by simp)] at this

theorem escrowlaw13_kept.use {w v x : AVal} {l : List UpdM} (L : LentG w v l.length (l.length + 1)) (ho : Own 36 G v ((l ++ [u7]).map UpdM.av)) (hl : IsSl 36 G x (l.map UpdM.av)) (hok : ∀ u ∈ l, u.ok) (hlen : l.length ≤ 1048576) (hQ : ∀ G', Ch [] G [] G' → Q (.bool true) G') : ACalls P escrowlaw13_kept.n [w, x] G Q := by
  have hw := (lent_is L ho).isSl
  refine escrowlaw13_kept.sound ?_
  unfold escrowlaw13_kept.S
  intro R hR
  have loop : ∀ (n j : Nat), l.length - j = n → j ≤ l.length → R [w, x, .int .i64 (j : Int)] G := by
    intro n
    induction n with
    | zero =>
      intro j hn hj
      refine hR _ _ _ _ ?_
      refine wv_of (upd_len hl) ?_
      rw [vbin_lss, wv_some, decide_eq_false (by omega), brB_false]
      refine wv_of (upd_len hw) ?_
      refine wv_of (upd_len hl) ?_
      rw [ez0, wv_some, brB_true]
      refine wv_of (upd_len hl) ?_
      rw [vbin_add, i64_in (by omega) (by omega), wv_some]
      refine wv_of (LentG.back T_sl_api_Update rfl T_api_Update L (by omega)) ?_
      refine wv_of (upd_len hl) ?_
      obtain ⟨a, e1, e2⟩ := upd_at (j := l.length) (u := u7) ho.is (by simp)
      refine wv_of e1 ?_
      refine wv_of e2 ?_
      refine wv_of (v := u7.av) rfl ?_
      rw [vbin_ueql u7_ok u7_ok, decide_eq_true rfl, wv_some]
      exact hQ _ (Ch.refl _ _)
    | succ n ih =>
      intro j hn hj
      obtain ⟨u, hu⟩ : ∃ u, l[j]? = some u := ⟨_, List.getElem?_eq_getElem (by omega)⟩
      have huo := hok u (List.mem_of_getElem? hu)
      refine hR _ _ _ _ ?_
      refine wv_of (upd_len hl) ?_
      rw [vbin_lss, wv_some, decide_eq_true (by omega), brB_true]
      obtain ⟨a, e1, e2⟩ := upd_at hw hu
      refine wv_of e1 ?_
      refine wv_of e2 ?_
      obtain ⟨b, e3, e4⟩ := upd_at hl hu
      refine wv_of e3 ?_
      refine wv_of e4 ?_
      rw [vbin_uneq huo huo, decide_eq_true rfl, Bool.not_true, wv_some, brB_false, vbin_add, i64_in (by omega) (by omega), wv_some]
      exact ih (j + 1) (by omega) (by omega)
  exact loop _ 0 rfl (by omega)

def flipA (a : Int) : Int := IntKind.i64.wrap (BitVec.ofInt IntKind.i64.bits a ^^^ BitVec.ofInt IntKind.i64.bits 1).toNat
def moreU (u : UpdM) : UpdM := { u with amount := flipA u.amount }
theorem moreU_ok {u : UpdM} (h : u.ok) : (moreU u).ok := ⟨h.kind, h.id, hw64 _, h.hash, h.note⟩
theorem more_ok {l : List UpdM} (h : ∀ u ∈ l, u.ok) : ∀ u ∈ l.map moreU, u.ok := by
  intro u hu
  obtain ⟨x, hx, rfl⟩ := List.mem_map.1 hu
  exact moreU_ok (h x hx)

theorem escrowlaw13_more.use {v : AVal} {l : List UpdM} (hl : IsSl 36 G v (l.map UpdM.av)) (hok : ∀ u ∈ l, u.ok) (hlen : l.length ≤ 1048576) (hQ : ∀ w G', Sp [] G [OwnL 36 w ((l.map moreU).map UpdM.av)] G' → Q w G') : ACalls P escrowlaw13_more.n [v] G Q := by
  refine escrowlaw13_more.sound ?_
  unfold escrowlaw13_more.S
  intro R hR
  have loop : ∀ (n j : Nat) (w : AVal) (G' : Heap), l.length - j = n → j ≤ l.length → Sp [] G [OwnL 36 w (((l.take j).map moreU).map UpdM.av)] G' → R [v, w, .int .i64 (j : Int)] G' := by
    intro n
    induction n with
    | zero =>
      intro j w G' hn hj sp
      refine hR _ _ _ _ ?_
      refine wv_of (upd_len (hl.ch' sp.ch)) ?_
      rw [vbin_lss, wv_some, decide_eq_false (by omega), brB_false]
      rw [List.take_of_length_le (by omega)] at sp
      exact hQ _ _ sp
    | succ n ih =>
      intro j w G' hn hj sp
      obtain ⟨u, hu⟩ : ∃ u, l[j]? = some u := ⟨_, List.getElem?_eq_getElem (by omega)⟩
      have huo := hok u (List.mem_of_getElem? hu)
      refine hR _ _ _ _ ?_
      refine wv_of (upd_len (hl.ch' sp.ch)) ?_
      rw [vbin_lss, wv_some, decide_eq_true (by omega), brB_true]
      obtain ⟨a, e1, e2⟩ := upd_at (hl.ch' sp.ch) hu
      refine wv_of e1 ?_
      refine wv_of e2 ?_
      refine newU sp huo fun i12 G14 s14 => ?_
      refine wv_of (upd_load (i := 0) s14 rfl huo).2.2.1 ?_
      refine wv_of (v := .int .i64 (flipA u.amount)) (vbin_xor _ _ _ _ _) ?_
      refine upd_amount (i := 0) (flipA u.amount) s14 rfl fun G17 s17 => ?_
      have s17 : Sp [] G [RowL i12 (moreU u).av, OwnL 36 w (((l.take j).map moreU).map UpdM.av)] G17 := s17
      refine wv_of (upd_load (i := 0) s17 rfl (moreU_ok huo)).2.2.2.2.2 ?_
      refine grow_upd (i := 1) s17 rfl (moreU_ok huo) (by rw [List.length_map, List.length_take]; omega) fun w' G22 s22 => ?_
      rw [vbin_add, i64_in (by omega) (by omega), wv_some]
      refine ih (j + 1) w' G22 (by omega) (by omega) ?_
      have e : (l.take (j + 1)).map moreU = (l.take j).map moreU ++ [moreU u] := by rw [List.take_add_one, hu, List.map_append]; rfl
      rw [e]
      exact s22.erase 0
  exact loop _ 0 .nilSlice G rfl (by omega) (by simpa using (Sp.nil G).nilL 36)

end

end Go.Esc.M

/- Own work. Chapter 13: Fold. -/
set_option linter.unusedSimpArgs false
set_option linter.unusedVariables false
namespace Go.Esc.M
open Go Go.Esc

theorem sum_two (a b : Int) : (sumFrom 0 [a, b]).2 = 0 ↔ amt a ∧ amt b ∧ amt (a + b) := by
  have h0 : right 0 = true := by decide
  unfold amt
  simp only [sumFrom, plus, h0, Bool.true_and, Int.zero_add]
  cases ha : right a with
  | false =>
    have : ¬ (0 ≤ a ∧ a ≤ 1152921504606846976) := by simpa [right] using ha
    simp
    omega
  | true =>
    have h1 := right_spec.1 ha
    cases hb : right b with
    | false =>
      have : ¬ (0 ≤ b ∧ b ≤ 1152921504606846976) := by simpa [right] using hb
      simp [ha, h1.1, h1.2]
      omega
    | true =>
      have h2 := right_spec.1 hb
      cases hc : right (a + b) with
      | false =>
        have : ¬ (0 ≤ a + b ∧ a + b ≤ 1152921504606846976) := by simpa [right] using hc
        simp [ha, hc, h1.1, h1.2, h2.1, h2.2]
        omega
      | true =>
        have h3 := right_spec.1 hc
        simp [ha, hc, h1.1, h1.2, h2.1, h2.2, h3.1, h3.2]
theorem foldM_bad {bo bp : Int} {a b : List UpdM} (h : allV a = false ∨ allV b = false) : foldM bo bp a b = .no 120 := if_pos h
theorem foldM_low {bo bp : Int} {a b : List UpdM} (h : ¬ (allV a = false ∨ allV b = false)) (h2 : foldX bo a b < 0 ∨ foldY bp a b < 0) : foldM bo bp a b = .no 130 := by
  unfold foldM
  rw [if_neg h, if_pos h2]
theorem foldM_fine {bo bp : Int} {a b : List UpdM} (h : ¬ (allV a = false ∨ allV b = false)) (h2 : ¬ (foldX bo a b < 0 ∨ foldY bp a b < 0)) : foldM bo bp a b = ⟨foldX bo a b, foldY bp a b, foldO a b, 0⟩ := by
  unfold foldM
  rw [if_neg h, if_neg h2]
theorem tv0' (a b c : AVal) : vextract (.tuple [a, b, c]) 0 = some a := rfl
theorem tv1' (a b c : AVal) : vextract (.tuple [a, b, c]) 1 = some b := rfl
theorem tv2' (a b c : AVal) : vextract (.tuple [a, b, c]) 2 = some c := rfl

section
variable {F0 : List AId} {G0 G : Heap} {ps : List LP} {Q : AVal → Heap → Prop}

theorem pens_ok2 {l : List PenM} (h : ∀ p ∈ l, p.ok) : Esc.uni 35 (l.map PenM.av) = true ∧ okvs (l.map PenM.av) = true := by
  refine ⟨by simp only [Esc.uni, List.all_map, List.all_eq_true]; intro p hp; simp [PenM.sz (h p hp)], ?_⟩
  clear h
  induction l with
  | nil => rfl
  | cons p l ih => simp [okvs, PenM.okv, ih]
theorem growL_pen {i : Nat} {v x : AVal} {l l' : List PenM} {K : AVal → Heap → Prop} (hs : Sp F0 G0 ps G) (hi : ps[i]? = some (OwnL 35 v (l.map PenM.av))) (hx : IsSl 35 G x (l'.map PenM.av)) (ho : ∀ u ∈ l', u.ok) (hl : (l.length + l'.length) * 56 ≤ 140737488355328) (hK : ∀ v' G', Sp F0 G0 (ps.set i (OwnL 35 v' ((l ++ l').map PenM.av))) G' → K v' G') :
    aAppend T G t_sl_api_Pending t_sl_api_Pending v x K := by
  have hb : ti_api_Pending.bytes = 56 := rfl
  refine growL (si := ti_sl_api_Pending) (ie := ti_api_Pending) T_sl_api_Pending rfl T_api_Pending rfl (by decide) T_sl_api_Pending (.inr ⟨_, rfl⟩) hs hi hx.elems (pens_ok2 ho).1 (pens_ok2 ho).2 (by rw [hb, List.length_map, List.length_map]; exact hl) fun s' G' h => hK s' G' ?_
  rw [List.map_append]
  exact h

set_option maxHeartbeats 8000000 in
theorem ledger_Fold.use {v w : AVal} {bo bp co cp : Int} {ours peers : List UpdM} (hl : CapSl 36 G v (ours.map UpdM.av)) (hp : CapSl 36 G w (peers.map UpdM.av)) (hok : ∀ u ∈ ours, u.ok) (hok2 : ∀ u ∈ peers, u.ok) (hlen : ours.length ≤ 1048576) (hlen2 : peers.length ≤ 1048576)
    (hQ : ∀ x G', Sp [] G [OwnL 35 x ((foldS bo bp ours peers co cp).l.map PenM.av)] G' → Q (.tuple [ledV (foldS bo bp ours peers co cp).o (foldS bo bp ours peers co cp).q x, .int .i64 (foldS bo bp ours peers co cp).e]) G') :
    ACalls P ledger_Fold.n [.int .i64 bo, .int .i64 bp, v, w, pairW co cp] G Q := by
  refine ledger_Fold.sound ?_
  unfold ledger_Fold.S
  rw [zLed, zWide]
  obtain ⟨F, hF⟩ : ∃ F, F = foldS bo bp ours peers co cp := ⟨_, rfl⟩
  rw [← hF] at hQ
  intro i1 f1
  have s1 := (Sp.nil G).row f1 (pairW co cp)
  intro i3 f3
  have s3 := s1.row f3 (ledV 0 0 .nilSlice)
  revert s3
  generalize Heap.upd _ i3 _ = G4
  intro s3 J99
  have no : ∀ (e : Int) (G2 : Heap) (j : Nat) (ps : List LP), Sp [] G ps G2 → ps[j]? = some (RowL i3 (ledV 0 0 .nilSlice)) → F = .no e → wv (vbuild T t_api_Ledger []) fun v17 => wg (vstore T G2 t_api_Ledger (.ptr i3 [] 0) v17) fun G18 => wv (vload T G18 t_api_Ledger (.ptr i3 [] 0)) fun v19 => Q (.tuple [v19, .int .i64 e]) G18 := by
    intro e G2 j ps s hj he
    refine wv_of (v := ledV 0 0 .nilSlice) rfl ?_
    refine led_store (i := j) s hj rfl nil_leaf fun G18 s18 => ?_
    refine wv_of (led_load (i := j) s18 (by rw [List.getElem?_set_self (List.getElem?_eq_some_iff.1 hj).1]) nil_leaf).2.2.2 ?_
    have := hQ .nilSlice G18
    rw [he] at this
    exact this (((Sp.nil G).tmp s18.ch).nilL 35)
  have bad : ¬ inC co cp ours peers → J99 (.bool true) G4 := by
    intro h
    simp -zeta only [J99, brB_true]
    exact no 1 G4 0 _ s3 rfl (by rw [hF]; unfold foldS; rw [if_neg fun hh => h hh.1])
  have good : inC co cp ours peers → J99 (.bool false) G4 := by
    intro hC
    simp -zeta only [J99, brB_false]
    refine buildV2 (T := T) (ts := t_sl_int64) (e := t_int64) (si := ti_sl_int64) (ie := ti_int64) (a := .int .i64 bo) (b := .int .i64 bp) T_sl_int64 rfl T_int64 rfl s3 rfl rfl (by decide) fun v20 G21 s21 => ?_
    refine amount_Sum.use (xs := [bo, bp]) (OwnL.own (i := 0) s21 rfl).is (by simp) ?_
    refine wv_of (pair0 _) ?_
    refine wv_of (pair1 _) ?_
    rw [vbin_neq, wv_some, brB_ndec]
    refine ⟨fun h => no 1 G21 1 _ s21 rfl (by rw [hF]; unfold foldS; rw [if_neg fun hh => h ((sum_two bo bp).2 hh.2)]), fun h => ?_⟩
    have hA := (sum_two bo bp).1 h
    have hFM : F = foldM bo bp (ours.take co.toNat) (peers.take cp.toNat) := by rw [hF]; unfold foldS; rw [if_pos ⟨hC, hA⟩]
    obtain ⟨c1, c2, c3, c4⟩ := hC
    obtain ⟨l1, l2, _⟩ := count_load (RowL.own (i := 2) s21 rfl)
    refine wv_of l1 ?_
    obtain ⟨va, ea, ca⟩ := CapSl.take (ie := ti_api_Update) (k := .i64) (m := co.toNat) (x := co) T_sl_api_Update rfl T_api_Update hl (by omega) (by rw [List.length_map]; omega)
    refine wv_of ea ?_
    refine wv_of l2 ?_
    obtain ⟨vb, eb, cb⟩ := CapSl.take (ie := ti_api_Update) (k := .i64) (m := cp.toNat) (x := cp) T_sl_api_Update rfl T_api_Update hp (by omega) (by rw [List.length_map]; omega)
    refine wv_of eb ?_
    rw [← List.map_take] at ca cb
    obtain ⟨A, hAd⟩ : ∃ A, A = ours.take co.toNat := ⟨_, rfl⟩
    obtain ⟨B, hBd⟩ : ∃ A, A = peers.take cp.toNat := ⟨_, rfl⟩
    rw [← hAd] at ca hFM
    rw [← hBd] at cb hFM
    have okA : ∀ u ∈ A, u.ok := by rw [hAd]; exact fun u hu => hok u (List.mem_of_mem_take hu)
    have okB : ∀ u ∈ B, u.ok := by rw [hBd]; exact fun u hu => hok2 u (List.mem_of_mem_take hu)
    have lA : A.length ≤ 1048576 := by rw [hAd, List.length_take]; omega
    have lB : B.length ≤ 1048576 := by rw [hBd, List.length_take]; omega
    have iA : IsSl 36 G va (A.map UpdM.av) := ca.isSl
    have iB : IsSl 36 G vb (B.map UpdM.av) := cb.isSl
    intro J98
    have s21 : Sp [] G [OwnL 1 v20 [.int .i64 bo, .int .i64 bp], RowL i3 (ledV 0 0 .nilSlice), RowL i1 (pairW co cp)] G21 := s21
    have bad2 : ∀ G2, Sp [] G [OwnL 1 v20 [.int .i64 bo, .int .i64 bp], RowL i3 (ledV 0 0 .nilSlice), RowL i1 (pairW co cp)] G2 → (allV A = false ∨ allV B = false) → J98 (.bool true) G2 := by
      intro G2 s2 h
      simp -zeta only [J98, brB_true]
      exact no 120 G2 1 _ s2 rfl (by rw [hFM, foldM_bad h])
    have good2 : ∀ G2, Sp [] G [OwnL 1 v20 [.int .i64 bo, .int .i64 bp], RowL i3 (ledV 0 0 .nilSlice), RowL i1 (pairW co cp)] G2 → ¬ (allV A = false ∨ allV B = false) → J98 (.bool false) G2 := by
      intro G2 s2 h
      have vA : allV A = true := by
        cases hh : allV A with
        | true => rfl
        | false => exact absurd (.inl hh) h
      have vB : allV B = true := by
        cases hh : allV B with
        | true => rfl
        | false => exact absurd (.inr hh) h
      have aA := allV_spec vA
      have aB := allV_spec vB
      simp -zeta only [J98, brB_false]
      refine ledger_removals.use (iB.ch' s2.ch) okB lB fun mid1 es1 G44 hes1 t44 => ?_
      obtain ⟨F44, o44, k44⟩ := t44.out
      have s44 := s2.new o44 k44
      refine wv_of (v := pairW 0 0) rfl ?_
      refine ledger_wide_plus.use (n := 0) ⟨by decide, by decide, by decide, by decide⟩ (by decide) hA.1 fun u0 l0 G47 c47 hw0 ht0 => ?_
      have s47 := s44.tmp c47
      refine wv_of (v := pairW 0 0) rfl ?_
      refine ledger_wide_plus.use (n := 0) ⟨by decide, by decide, by decide, by decide⟩ (by decide) hA.2.1 fun u1 l1 G50 c50 hw1 ht1 => ?_
      have s50 := s47.tmp c50
      have ht0 : totW u0 l0 = bo := by rw [ht0]; unfold totW; omega
      have ht1 : totW u1 l1 = bp := by rw [ht1]; unfold totW; omega
      refine ledger_part.use (n := 0 + 1) (iA.ch' s50.ch) okA aA lA (MapL.own (i := 0) s50 rfl) hes1 hw0 hw1 (by decide) fun a b d e w1 G52 x1 x2 y1 y2 t52 => ?_
      obtain ⟨F52, o52, k52⟩ := t52.out
      have s52 := s50.new o52 k52
      rw [ht0] at y1
      rw [ht1] at y2
      refine wv_of (tv0' _ _ _) ?_
      refine wv_of (tv1' _ _ _) ?_
      refine wv_of (tv2' _ _ _) ?_
      intro i56 f56
      have s57 := s52.row f56 (pairW 0 0)
      intro i58 f58
      have s59 := s57.row f58 (pairW 0 0)
      refine wide_store (i := 1) s59 rfl fun G60 s60 => ?_
      refine wide_store (i := 0) s60 rfl fun G61 s61 => ?_
      have s61 : Sp [] G [RowL i58 (pairW d e), RowL i56 (pairW a b), OwnL 35 w1 ((sortP (pensF true (opens B) A)).map PenM.av), MapL mid1 (mapE es1), OwnL 1 v20 [.int .i64 bo, .int .i64 bp], RowL i3 (ledV 0 0 .nilSlice), RowL i1 (pairW co cp)] G61 := s61
      refine wv_of (pair_load (RowL.own (i := 0) s61 rfl) T_ledger_wide rfl).2.2 ?_
      refine wv_of (pair_load (RowL.own (i := 1) s61 rfl) T_ledger_wide rfl).2.2 ?_
      refine ledger_removals.use (iA.ch' s61.ch) okA lA fun mid2 es2 G65 hes2 t65 => ?_
      obtain ⟨F65, o65, k65⟩ := t65.out
      have s65 := s61.new o65 k65
      refine ⟨⟨(pair_load (RowL.own (i := 2) s65 rfl) T_ledger_wide rfl).2.2, (pair_load (RowL.own (i := 1) s65 rfl) T_ledger_wide rfl).2.2, trivial⟩, ?_⟩
      refine ledger_part.use (n := 0 + 1 + A.length) (iB.ch' s65.ch) okB aB lB (MapL.own (i := 0) s65 rfl) hes2 x2 x1 (by omega) fun a2 b2 d2 e2 w2 G67 z1 z2 q1 q2 t67 => ?_
      obtain ⟨F67, o67, k67⟩ := t67.out
      have s67 := s65.new o67 k67
      rw [y2] at q1
      rw [y1] at q2
      refine wv_of (tv0' _ _ _) ?_
      refine wv_of (tv1' _ _ _) ?_
      refine wv_of (tv2' _ _ _) ?_
      refine wide_store (i := 2) s67 rfl fun G71 s71 => ?_
      refine wide_store (i := 3) s71 rfl fun G72 s72 => ?_
      have s72 : Sp [] G [OwnL 35 w2 ((sortP (pensF false (opens A) B)).map PenM.av), MapL mid2 (mapE es2), RowL i58 (pairW a2 b2), RowL i56 (pairW d2 e2), OwnL 35 w1 ((sortP (pensF true (opens B) A)).map PenM.av), MapL mid1 (mapE es1), OwnL 1 v20 [.int .i64 bo, .int .i64 bp], RowL i3 (ledV 0 0 .nilSlice), RowL i1 (pairW co cp)] G72 := s72
      have qX : totW d2 e2 = foldX bo A B := by rw [q2]; unfold foldX; omega
      have qY : totW a2 b2 = foldY bp A B := by rw [q1]; unfold foldY; omega
      refine wv_of (pair_load (RowL.own (i := 3) s72 rfl) T_ledger_wide rfl).2.2 ?_
      refine wv_of (pair_load (RowL.own (i := 2) s72 rfl) T_ledger_wide rfl).2.2 ?_
      refine ledger_wide_value.use z2 (by omega) fun G76 c76 => ?_
      have s76 := s72.tmp c76
      refine ⟨⟨(pair_load (RowL.own (i := 2) s76 rfl) T_ledger_wide rfl).2.2, trivial⟩, ?_⟩
      refine ledger_wide_value.use z1 (by omega) fun G78 c78 => ?_
      have s78 := s76.tmp c78
      rw [qX, qY]
      have hlo := foldO_len A B
      unfold foldO at hlo
      rw [List.length_append] at hlo
      refine growL_pen (i := 4) s78 rfl (OwnL.own (i := 0) s78 rfl).is (sortP_ok (pensF_ok okB)) (by omega) fun w3 G80 s80 => ?_
      have s80 : Sp [] G [OwnL 35 w2 ((sortP (pensF false (opens A) B)).map PenM.av), MapL mid2 (mapE es2), RowL i58 (pairW a2 b2), RowL i56 (pairW d2 e2), OwnL 35 w3 ((foldO A B).map PenM.av), MapL mid1 (mapE es1), OwnL 1 v20 [.int .i64 bo, .int .i64 bp], RowL i3 (ledV 0 0 .nilSlice), RowL i1 (pairW co cp)] G80 := s80
      have lw3 := (OwnL.own (i := 4) s80 rfl).leaf
      refine wv_of (build_led lw3.1) ?_
      intro i82 f82
      have s83 := s80.row f82 (ledV 0 0 .nilSlice)
      refine led_store (i := 0) s83 rfl rfl lw3 fun G84 s84 => ?_
      have s84 : Sp [] G [RowL i82 (ledV (valueW (foldX bo A B)) (valueW (foldY bp A B)) w3), OwnL 35 w2 ((sortP (pensF false (opens A) B)).map PenM.av), MapL mid2 (mapE es2), RowL i58 (pairW a2 b2), RowL i56 (pairW d2 e2), OwnL 35 w3 ((foldO A B).map PenM.av), MapL mid1 (mapE es1), OwnL 1 v20 [.int .i64 bo, .int .i64 bp], RowL i3 (ledV 0 0 .nilSlice), RowL i1 (pairW co cp)] G84 := s84
      obtain ⟨X, hX⟩ : ∃ X, X = foldX bo A B := ⟨_, rfl⟩
      obtain ⟨Y, hY⟩ : ∃ Y, Y = foldY bp A B := ⟨_, rfl⟩
      have hfl := fold_le (bo := bo) (bp := bp) aA aB hA.2.2.2
      have hlow := foldM_low (bo := bo) (bp := bp) h
      have hfine := foldM_fine (bo := bo) (bp := bp) h
      rw [← hX, ← hY] at s84 hfl hlow hfine
      intro J97
      have low : (X < 0 ∨ Y < 0) → J97 (.bool true) G84 := by
        intro hh
        simp -zeta only [J97, brB_true]
        exact no 130 G84 8 _ s84 rfl (by rw [hFM, hlow hh])
      have fine : ¬ (X < 0 ∨ Y < 0) → J97 (.bool false) G84 := by
        intro hh
        simp -zeta only [J97, brB_false]
        have eX := (value_same (t := X) (by omega) (hfl.1 (by omega))).1
        have eY := (value_same (t := Y) (by omega) (hfl.2 (by omega))).1
        rw [eX, eY] at s84
        refine wv_of (led_load (i := 0) s84 rfl lw3).2.2.2 ?_
        refine led_store (i := 8) s84 rfl rfl lw3 fun G95 s95 => ?_
        refine wv_of (led_load (i := 8) s95 rfl lw3).2.2.2 ?_
        have hF2 : F = ⟨X, Y, foldO A B, 0⟩ := by rw [hFM, hfine hh]
        rw [hF2] at hQ
        refine hQ w3 G95 ?_
        exact ((((((((s95.erase 0).erase 0).erase 0).erase 0).erase 0).erase 1).erase 1).erase 1).erase 1
      refine wv_of (led_load (i := 0) s84 rfl lw3).1 ?_
      rw [vbin_lss, wv_some]
      by_cases h1 : valueW X < 0
      · rw [decide_eq_true h1, brB_true]
        exact low (.inl ((value_neg X).1 h1))
      · rw [decide_eq_false h1, brB_false]
        refine wv_of (led_load (i := 0) s84 rfl lw3).2.1 ?_
        rw [vbin_lss, wv_some]
        by_cases h2 : valueW Y < 0
        · rw [decide_eq_true h2]
          exact low (.inr ((value_neg Y).1 h2))
        · rw [decide_eq_false h2]
          exact fine fun hh => hh.elim (fun q => h1 ((value_neg X).2 q)) (fun q => h2 ((value_neg Y).2 q))
    refine contains.use (iA.ch' s21.ch) okA lA fun G35 c35 => ?_
    have s35 := s21.tmp c35
    cases vA : allV A with
    | false => exact bad2 _ s35 (.inl vA)
    | true =>
      rw [Bool.not_true, brB_false]
      refine contains.use (iB.ch' s35.ch) okB lB fun G37 c37 => ?_
      have s37 := s35.tmp c37
      cases vB : allV B with
      | false => exact bad2 _ s37 (.inr vB)
      | true => exact good2 _ s37 (by rw [vA, vB]; simp)
  obtain ⟨l1, l2, _⟩ := count_load (RowL.own (i := 1) s3 rfl)
  refine wv_of l1 ?_
  rw [vbin_lss, wv_some, brB_dec]
  refine ⟨fun h => bad fun hh => by have := hh.1; omega, fun h1 => ?_⟩
  refine wv_of l1 ?_
  refine wv_of (upd_len (hl.isSl.ch' s3.ch)) ?_
  rw [vbin_gtr, wv_some, brB_dec]
  refine ⟨fun h => bad fun hh => by have := hh.2.1; omega, fun h2 => ?_⟩
  refine wv_of l2 ?_
  rw [vbin_lss, wv_some, brB_dec]
  refine ⟨fun h => bad fun hh => by have := hh.2.2.1; omega, fun h3 => ?_⟩
  refine wv_of l2 ?_
  refine wv_of (upd_len (hp.isSl.ch' s3.ch)) ?_
  rw [vbin_gtr, wv_some]
  by_cases h4 : (peers.length : Int) < cp
  · rw [decide_eq_true h4]
    exact bad fun hh => by have := hh.2.2.2; omega
  · rw [decide_eq_false h4]
    exact good ⟨by omega, by omega, by omega, by omega⟩

end

end Go.Esc.M
