import Derived.Test.YtbckpbdamfhehaaGreatDoorLFq
import Derived.Test.YtbckpbdamfhehaaGreatDoorLDg
import Derived.Test.YtbckpbdamfhehaaGreatDoorLSh
import Derived.Test.YtbckpbdamfhehaaGreatDoorLFa
import Derived.Test.YtbckpbdamfhehaaGreatDoorLRS
import Derived.Test.YtbckpbdamfhehaaGreatDoorLUf
/- Own work. Chapter 13: what Fold answers: plain. -/
set_option linter.unusedSimpArgs false
set_option linter.unusedVariables false
set_option maxRecDepth 20000
namespace Go.Esc.M
open Go Go.Esc

theorem sum_split {f g h : UpdM → Bool} : ∀ {l : List UpdM}, (∀ u ∈ l, f u = (g u || h u) ∧ (g u && h u) = false) → sumF f l = sumF g l + sumF h l
  | [], _ => rfl
  | u :: l, hl => by
    have ih := sum_split (f := f) (g := g) (h := h) (l := l) fun x hx => hl x (by simp [hx])
    obtain ⟨h1, h2⟩ := hl u (by simp)
    unfold sumF at ih ⊢
    cases hg : g u <;> cases hh : h u <;> rw [hg, hh] at h1 h2 <;> simp [h1, hg, hh] at h2 ⊢ <;> omega
theorem stays_split (r l : List UpdM) : sumF (stays r) l = sumF (paid r) l + sumF (opens r) l := by
  refine sum_split fun u _ => ?_
  unfold opens stays paid
  by_cases h2 : remS u.id r = 2
  · simp [h2]
  · simp [h2]
/-- The balances that a commitment gives. -/
def foldX (bo : Int) (a b : List UpdM) : Int := bo - sumF (stays b) a + sumF (paid a) b
def foldY (bp : Int) (a b : List UpdM) : Int := bp + sumF (paid b) a - sumF (stays a) b
def foldO (a b : List UpdM) : List PenM := sortP (pensF true (opens b) a) ++ sortP (pensF false (opens a) b)
structure FoldM where
  o : Int
  q : Int
  l : List PenM
  e : Int
def FoldM.no (e : Int) : FoldM := ⟨0, 0, [], e⟩
def foldM (bo bp : Int) (a b : List UpdM) : FoldM :=
  if allV a = false ∨ allV b = false then .no 120
  else if foldX bo a b < 0 ∨ foldY bp a b < 0 then .no 130
  else ⟨foldX bo a b, foldY bp a b, foldO a b, 0⟩
def inC (co cp : Int) (ours peers : List UpdM) : Prop := 0 ≤ co ∧ co ≤ ours.length ∧ 0 ≤ cp ∧ cp ≤ peers.length
instance (co cp : Int) (ours peers : List UpdM) : Decidable (inC co cp ours peers) := by unfold inC; infer_instance
instance (a : Int) : Decidable (amt a) := by unfold amt; infer_instance
def foldS (bo bp : Int) (ours peers : List UpdM) (co cp : Int) : FoldM :=
  if inC co cp ours peers ∧ amt bo ∧ amt bp ∧ amt (bo + bp) then foldM bo bp (ours.take co.toNat) (peers.take cp.toNat) else .no 1
theorem allV_spec {l : List UpdM} (h : allV l = true) : ∀ u ∈ l, validU u = true := fun u hu => List.all_eq_true.1 h u hu
theorem open_bound {r l : List UpdM} (hv : ∀ u ∈ l, validU u = true) : 0 ≤ sumF (opens r) l := by
  refine (sumF_bound fun u hu hf => ?_).1
  have := (valid_spec (hv u hu)).2.2
  have hk : u.kind = 1 := by simp [opens, stays] at hf; exact hf.1.1
  constructor <;> omega
theorem fold_sum {bo bp : Int} {a b : List UpdM} : foldX bo a b + foldY bp a b + sumF (opens b) a + sumF (opens a) b = bo + bp := by
  have h1 := stays_split b a
  have h2 := stays_split a b
  unfold foldX foldY
  omega
theorem fold_le {bo bp : Int} {a b : List UpdM} (ha : ∀ u ∈ a, validU u = true) (hb : ∀ u ∈ b, validU u = true) (h : bo + bp ≤ 1152921504606846976) :
    (0 ≤ foldY bp a b → foldX bo a b ≤ 1152921504606846976) ∧ (0 ≤ foldX bo a b → foldY bp a b ≤ 1152921504606846976) := by
  have h1 := fold_sum (bo := bo) (bp := bp) (a := a) (b := b)
  have h2 := open_bound (r := b) ha
  have h3 := open_bound (r := a) hb
  constructor <;> intro _ <;> omega
theorem value_same {t : Int} (h0 : 0 ≤ t) (h1 : t ≤ 1152921504606846976) : valueW t = t ∧ cutW t = t := by
  unfold valueW cutW
  rw [if_neg (by omega), if_pos (by omega), if_neg (by omega)]
  refine ⟨rfl, ?_⟩
  split <;> omega
theorem value_neg (t : Int) : valueW t < 0 ↔ t < 0 := by
  unfold valueW
  split
  · omega
  · split <;> omega
theorem foldO_ok {a b : List UpdM} (ha : ∀ u ∈ a, u.ok) (hb : ∀ u ∈ b, u.ok) : ∀ p ∈ foldO a b, p.ok := by
  intro p hp
  rcases List.mem_append.1 hp with hp | hp
  · exact sortP_ok (pensF_ok ha) p hp
  · exact sortP_ok (pensF_ok hb) p hp
theorem foldO_len (a b : List UpdM) : (foldO a b).length ≤ a.length + b.length := by
  unfold foldO
  rw [List.length_append, sortP_len, sortP_len]
  have := pensF_len true (opens b) a
  have := pensF_len false (opens a) b
  omega
theorem foldM_ok {bo bp : Int} {a b : List UpdM} (ha : ∀ u ∈ a, u.ok) (hb : ∀ u ∈ b, u.ok) : ∀ p ∈ (foldM bo bp a b).l, p.ok := by
  intro p hp
  unfold foldM at hp
  split at hp
  · cases hp
  · split at hp
    · cases hp
    · exact foldO_ok ha hb p hp
theorem foldM_len (bo bp : Int) (a b : List UpdM) : (foldM bo bp a b).l.length ≤ a.length + b.length := by
  unfold foldM
  split
  · simp [FoldM.no]
  · split
    · simp [FoldM.no]
    · exact foldO_len a b
theorem foldS_ok {bo bp : Int} {a b : List UpdM} {co cp : Int} (ha : ∀ u ∈ a, u.ok) (hb : ∀ u ∈ b, u.ok) : ∀ p ∈ (foldS bo bp a b co cp).l, p.ok := by
  intro p hp
  unfold foldS at hp
  split at hp
  · exact foldM_ok (fun u hu => ha u (List.mem_of_mem_take hu)) (fun u hu => hb u (List.mem_of_mem_take hu)) p hp
  · cases hp
theorem foldS_len (bo bp : Int) (a b : List UpdM) (co cp : Int) : (foldS bo bp a b co cp).l.length ≤ a.length + b.length := by
  unfold foldS
  split
  · have := foldM_len bo bp (a.take co.toNat) (b.take cp.toNat)
    rw [List.length_take, List.length_take] at this
    omega
  · simp [FoldM.no]

end Go.Esc.M

/- Own work. Chapter 13: plain laws: the other side's view; nothing is lost. -/
set_option linter.unusedSimpArgs false
set_option linter.unusedVariables false
set_option maxRecDepth 20000
namespace Go.Esc.M
open Go Go.Esc

/-- What is open: mine first, each part by ID; amounts of 1 and more. -/
structure WholeP (left : Int) (l : List PenM) : Prop where
  one : ∀ p ∈ l, 1 ≤ p.amount
  sum : (l.map (·.amount)).sum = left
  ord : ∀ j p q, l[j]? = some p → l[j + 1]? = some q → ¬ (q.ours = true ∧ p.ours = false) ∧ (q.ours = p.ours → p.id ≤ q.id)
end Go.Esc.M

/- Own work. Chapter 13: plain laws: two lists that grow: nobody ever falls below 0. -/
set_option linter.unusedSimpArgs false
set_option linter.unusedVariables false
set_option maxRecDepth 20000
namespace Go.Esc.M
open Go Go.Esc

theorem sumF_append (f : UpdM → Bool) (a b : List UpdM) : sumF f (a ++ b) = sumF f a + sumF f b := by
  unfold sumF
  rw [List.filter_append, List.map_append, List.sum_append]
theorem sumF_nn {f : UpdM → Bool} {l : List UpdM} (h : ∀ u ∈ l, 0 ≤ u.amount) : 0 ≤ sumF f l := by
  unfold sumF
  induction l with
  | nil => simp
  | cons u l ih =>
    have ih := ih fun x hx => h x (by simp [hx])
    have := h u (by simp)
    simp only [List.filter_cons]
    split
    · simp only [List.map_cons, List.sum_cons]; omega
    · exact ih
theorem sumF_zero {f : UpdM → Bool} {l : List UpdM} (h : ∀ u ∈ l, f u = false) : sumF f l = 0 := by
  unfold sumF
  rw [List.filter_eq_nil_iff.2 fun u hu => by rw [h u hu]; decide]
  rfl
theorem valid_nn {u : UpdM} (h : validU u = true) : 0 ≤ u.amount := by
  have := (valid_spec h).2.2
  omega

def addsN (l : List UpdM) : Nat := (l.filter fun u => decide (u.kind = 1)).length
theorem addsN_le (l : List UpdM) : addsN l ≤ l.length := List.length_filter_le _ _
theorem addsN_append (a b : List UpdM) : addsN (a ++ b) = addsN a + addsN b := by unfold addsN; rw [List.filter_append, List.length_append]
def SB (base : Int) (mine others : List UpdM) (fm fo : Nat) : Int := base - sumF (stays (others.take fo)) mine + sumF (paid (mine.take fm)) others
/-- Each add's number is how many stand ahead of it. -/
def idsOk (l : List UpdM) : Prop := ∀ j u, l[j]? = some u → u.kind = 1 → u.id = ((addsN (l.take j) : Nat) : Int)
/-- Each removal speaks of an add among the other side's first. -/
def remsOk (mine others : List UpdM) (fo : Nat) : Prop := ∀ u ∈ mine, u.kind ≠ 1 → ∃ w ∈ others.take fo, w.kind = 1 ∧ w.id = u.id
structure BookI (b0 b1 : Int) (l0 l1 : List UpdM) (f0 f1 : Nat) : Prop where
  ok0 : ∀ u ∈ l0, u.ok
  ok1 : ∀ u ∈ l1, u.ok
  v0 : ∀ u ∈ l0, validU u = true
  v1 : ∀ u ∈ l1, validU u = true
  le0 : f0 ≤ l0.length
  le1 : f1 ≤ l1.length
  m0 : l0.length ≤ 2048
  m1 : l1.length ≤ 2048
  i0 : idsOk l0
  i1 : idsOk l1
  r0 : remsOk l0 l1 f1
  r1 : remsOk l1 l0 f0
  s0 : 0 ≤ SB b0 l0 l1 f0 f1
  s1 : 0 ≤ SB b1 l1 l0 f1 f0
  b0n : 0 ≤ b0
  b1n : 0 ≤ b1
  bs : b0 + b1 ≤ 1152921504606846976
theorem BookI.swap {b0 b1 : Int} {l0 l1 : List UpdM} {f0 f1 : Nat} (h : BookI b0 b1 l0 l1 f0 f1) : BookI b1 b0 l1 l0 f1 f0 :=
  ⟨h.ok1, h.ok0, h.v1, h.v0, h.le1, h.le0, h.m1, h.m0, h.i1, h.i0, h.r1, h.r0, h.s1, h.s0, h.b1n, h.b0n, by have := h.bs; omega⟩

theorem take_snoc (l : List UpdM) (u : UpdM) {n : Nat} (h : n ≤ l.length) : (l ++ [u]).take n = l.take n := by
  rw [List.take_append_of_le_length h]
theorem ids_snoc {l : List UpdM} {u : UpdM} (h : idsOk l) (hu : u.kind = 1 → u.id = ((addsN l : Nat) : Int)) : idsOk (l ++ [u]) := by
  intro j w hj hw
  by_cases hjl : j < l.length
  · rw [List.getElem?_append_left hjl] at hj
    rw [take_snoc l u (by omega)]
    exact h j w hj hw
  · have hb := (List.getElem?_eq_some_iff.1 hj).1
    rw [List.length_append, List.length_singleton] at hb
    have : j = l.length := by omega
    subst this
    rw [List.getElem?_append_right (by omega)] at hj
    simp at hj
    subst hj
    rw [take_snoc l u (Nat.le_refl _), List.take_length]
    exact hu hw
theorem rems_snoc {mine others : List UpdM} {fo : Nat} {u : UpdM} (h : remsOk mine others fo) (hu : u.kind ≠ 1 → ∃ w ∈ others.take fo, w.kind = 1 ∧ w.id = u.id) : remsOk (mine ++ [u]) others fo := by
  intro x hx hk
  rcases List.mem_append.1 hx with hx | hx
  · exact h x hx hk
  · rw [List.mem_singleton.1 hx] at hk ⊢
    exact hu hk
theorem mem_snoc {α : Type} {Pr : α → Prop} {l : List α} {u : α} (h : ∀ x ∈ l, Pr x) (hu : Pr u) : ∀ x ∈ l ++ [u], Pr x := by
  intro x hx
  rcases List.mem_append.1 hx with hx | hx
  · exact h x hx
  · rw [List.mem_singleton.1 hx]; exact hu

/-- An add of what is spendable. -/
theorem BookI.add {b0 b1 : Int} {l0 l1 : List UpdM} {f0 f1 : Nat} (h : BookI b0 b1 l0 l1 f0 f1) (hl : l0.length < 2048) {u : UpdM} (hk : u.kind = 1) (hid : u.id = ((addsN l0 : Nat) : Int)) (ho : u.ok) (hv : validU u = true) (ha : u.amount ≤ SB b0 l0 l1 f0 f1) : BookI b0 b1 (l0 ++ [u]) l1 f0 f1 := by
  have hnn := valid_nn hv
  refine ⟨mem_snoc h.ok0 ho, h.ok1, mem_snoc h.v0 hv, h.v1, by rw [List.length_append]; have := h.le0; omega, h.le1, by rw [List.length_append, List.length_singleton]; omega, h.m1, ids_snoc h.i0 fun _ => hid, h.i1, rems_snoc h.r0 fun hh => absurd hk hh, ?_, ?_, ?_, h.b0n, h.b1n, h.bs⟩
  · rw [remsOk, take_snoc l0 u h.le0]; exact h.r1
  · unfold SB at ha ⊢
    rw [take_snoc l0 u h.le0, sumF_append]
    have : sumF (stays (l1.take f1)) [u] ≤ u.amount := by
      unfold sumF
      simp only [List.filter_cons, List.filter_nil]
      split
      · simp
      · simp; exact hnn
    omega
  · have h1 := h.s1
    unfold SB at h1 ⊢
    rw [take_snoc l0 u h.le0, sumF_append]
    have := sumF_nn (f := paid (l1.take f1)) (l := [u]) fun x hx => by rw [List.mem_singleton.1 hx]; exact hnn
    omega
/-- A removal of what is irrevocable. -/
theorem BookI.rem {b0 b1 : Int} {l0 l1 : List UpdM} {f0 f1 : Nat} (h : BookI b0 b1 l0 l1 f0 f1) (hl : l0.length < 2048) {u : UpdM} (hk : u.kind ≠ 1) (hr : ∃ w ∈ l1.take f1, w.kind = 1 ∧ w.id = u.id) (ho : u.ok) (hv : validU u = true) : BookI b0 b1 (l0 ++ [u]) l1 f0 f1 := by
  refine ⟨mem_snoc h.ok0 ho, h.ok1, mem_snoc h.v0 hv, h.v1, by rw [List.length_append]; have := h.le0; omega, h.le1, by rw [List.length_append, List.length_singleton]; omega, h.m1, ids_snoc h.i0 fun hh => absurd hh hk, h.i1, rems_snoc h.r0 fun _ => hr, ?_, ?_, ?_, h.b0n, h.b1n, h.bs⟩
  · rw [remsOk, take_snoc l0 u h.le0]; exact h.r1
  · have h1 := h.s0
    unfold SB at h1 ⊢
    rw [take_snoc l0 u h.le0, sumF_append, sumF_zero (l := [u]) fun x hx => by rw [List.mem_singleton.1 hx]; simp [stays, hk]]
    omega
  · have h1 := h.s1
    unfold SB at h1 ⊢
    rw [take_snoc l0 u h.le0, sumF_append, sumF_zero (l := [u]) fun x hx => by rw [List.mem_singleton.1 hx]; simp [paid, hk]]
    omega
end Go.Esc.M

/- Own work. Chapter 13: what the laws themselves do: lists lent, kept, changed; ledgers compared. -/
set_option linter.unusedSimpArgs false
set_option linter.unusedVariables false
set_option maxRecDepth 20000
namespace Go.Esc.M
open Go Go.Esc

section
variable {F0 : List AId} {G0 G : Heap} {ps : List LP} {Q : AVal → Heap → Prop}

end

end Go.Esc.M

/- Own work. Chapter 13: Fold. -/
set_option linter.unusedSimpArgs false
set_option linter.unusedVariables false
set_option maxRecDepth 20000
namespace Go.Esc.M
open Go Go.Esc

theorem sum_two (a b : Int) : (sumFrom 0 [a, b]).2 = 0 ↔ amt a ∧ amt b ∧ amt (a + b) := by
  have h0 : right 0 = true := by decide
  unfold amt
  simp only [sumFrom, plus, h0, Bool.true_and, Int.zero_add]
  cases ha : right a with
  | false =>
    have : ¬ (0 ≤ a ∧ a ≤ 1152921504606846976) := by simpa [right] using ha
    simp
    omega
  | true =>
    have h1 := right_spec.1 ha
    cases hb : right b with
    | false =>
      have : ¬ (0 ≤ b ∧ b ≤ 1152921504606846976) := by simpa [right] using hb
      simp [ha, h1.1, h1.2]
      omega
    | true =>
      have h2 := right_spec.1 hb
      cases hc : right (a + b) with
      | false =>
        have : ¬ (0 ≤ a + b ∧ a + b ≤ 1152921504606846976) := by simpa [right] using hc
        simp [ha, hc, h1.1, h1.2, h2.1, h2.2]
        omega
      | true =>
        have h3 := right_spec.1 hc
        simp [ha, hc, h1.1, h1.2, h2.1, h2.2, h3.1, h3.2]
theorem foldM_bad {bo bp : Int} {a b : List UpdM} (h : allV a = false ∨ allV b = false) : foldM bo bp a b = .no 120 := if_pos h
theorem foldM_low {bo bp : Int} {a b : List UpdM} (h : ¬ (allV a = false ∨ allV b = false)) (h2 : foldX bo a b < 0 ∨ foldY bp a b < 0) : foldM bo bp a b = .no 130 := by
  unfold foldM
  rw [if_neg h, if_pos h2]
theorem foldM_fine {bo bp : Int} {a b : List UpdM} (h : ¬ (allV a = false ∨ allV b = false)) (h2 : ¬ (foldX bo a b < 0 ∨ foldY bp a b < 0)) : foldM bo bp a b = ⟨foldX bo a b, foldY bp a b, foldO a b, 0⟩ := by
  unfold foldM
  rw [if_neg h, if_neg h2]
theorem tv0' (a b c : AVal) : vextract (.tuple [a, b, c]) 0 = some a := rfl
theorem tv1' (a b c : AVal) : vextract (.tuple [a, b, c]) 1 = some b := rfl
theorem tv2' (a b c : AVal) : vextract (.tuple [a, b, c]) 2 = some c := rfl

section
variable {F0 : List AId} {G0 G : Heap} {ps : List LP} {Q : AVal → Heap → Prop}

theorem pens_ok2 {l : List PenM} (h : ∀ p ∈ l, p.ok) : Esc.uni 35 (l.map PenM.av) = true ∧ okvs (l.map PenM.av) = true := by
  refine ⟨by simp only [Esc.uni, List.all_map, List.all_eq_true]; intro p hp; simp [PenM.sz (h p hp)], ?_⟩
  clear h
  induction l with
  | nil => rfl
  | cons p l ih => simp [okvs, PenM.okv, ih]
theorem growL_pen {i : Nat} {v x : AVal} {l l' : List PenM} {K : AVal → Heap → Prop} (hs : Sp F0 G0 ps G) (hi : ps[i]? = some (OwnL 35 v (l.map PenM.av))) (hx : IsSl 35 G x (l'.map PenM.av)) (ho : ∀ u ∈ l', u.ok) (hl : (l.length + l'.length) * 56 ≤ 220000000000000) (hK : ∀ v' G', Sp F0 G0 (ps.set i (OwnL 35 v' ((l ++ l').map PenM.av))) G' → K v' G') :
    aAppend T G t_sl_api_Pending t_sl_api_Pending v x K := by
  have hb : ti_api_Pending.bytes = 56 := rfl
  refine growL (si := ti_sl_api_Pending) (ie := ti_api_Pending) T_sl_api_Pending rfl T_api_Pending rfl (by decide) T_sl_api_Pending (.inr ⟨_, rfl⟩) hs hi hx.elems (pens_ok2 ho).1 (pens_ok2 ho).2 (by rw [hb, List.length_map, List.length_map]; exact hl) fun s' G' h => hK s' G' ?_
  rw [List.map_append]
  exact h

set_option maxHeartbeats 8000000 in
theorem ledger_Fold.use {v w : AVal} {bo bp co cp : Int} {ours peers : List UpdM} (hl : CapSl 36 G v (ours.map UpdM.av)) (hp : CapSl 36 G w (peers.map UpdM.av)) (hok : ∀ u ∈ ours, u.ok) (hok2 : ∀ u ∈ peers, u.ok) (hlen : ours.length ≤ 1048576) (hlen2 : peers.length ≤ 1048576)
    (hQ : ∀ x G', Sp [] G [OwnL 35 x ((foldS bo bp ours peers co cp).l.map PenM.av)] G' → Q (.tuple [ledV (foldS bo bp ours peers co cp).o (foldS bo bp ours peers co cp).q x, .int .i64 (foldS bo bp ours peers co cp).e]) G') :
    ACalls P ledger_Fold.n [.int .i64 bo, .int .i64 bp, v, w, pairW co cp] G Q := by
  refine ledger_Fold.sound ?_
  unfold ledger_Fold.S
  rw [zLed, zWide]
  obtain ⟨F, hF⟩ : ∃ F, F = foldS bo bp ours peers co cp := ⟨_, rfl⟩
  rw [← hF] at hQ
  intro i1 f1
  have s1 := (Sp.nil G).row f1 (pairW co cp)
  intro i3 f3
  have s3 := s1.row f3 (ledV 0 0 .nilSlice)
  revert s3
  generalize Heap.upd _ i3 _ = G4
  intro s3 J99
  have no : ∀ (e : Int) (G2 : Heap) (j : Nat) (ps : List LP), Sp [] G ps G2 → ps[j]? = some (RowL i3 (ledV 0 0 .nilSlice)) → F = .no e → wv (vbuild T t_api_Ledger []) fun v17 => wg (vstore T G2 t_api_Ledger (.ptr i3 [] 0) v17) fun G18 => wv (vload T G18 t_api_Ledger (.ptr i3 [] 0)) fun v19 => Q (.tuple [v19, .int .i64 e]) G18 := by
    intro e G2 j ps s hj he
    refine wv_of (v := ledV 0 0 .nilSlice) rfl ?_
    refine led_store (i := j) s hj rfl nil_leaf fun G18 s18 => ?_
    refine wv_of (led_load (i := j) s18 (by rw [List.getElem?_set_self (List.getElem?_eq_some_iff.1 hj).1]) nil_leaf).2.2.2 ?_
    have := hQ .nilSlice G18
    rw [he] at this
    exact this (((Sp.nil G).tmp s18.ch).nilL 35)
  have bad : ¬ inC co cp ours peers → J99 (.bool true) G4 := by
    intro h
    simp -zeta only [J99, brB_true]
    exact no 1 G4 0 _ s3 rfl (by rw [hF]; unfold foldS; rw [if_neg fun hh => h hh.1])
  have good : inC co cp ours peers → J99 (.bool false) G4 := by
    intro hC
    simp -zeta only [J99, brB_false]
    refine buildV2 (T := T) (ts := t_sl_int64) (e := t_int64) (si := ti_sl_int64) (ie := ti_int64) (a := .int .i64 bo) (b := .int .i64 bp) T_sl_int64 rfl T_int64 rfl s3 rfl rfl (by decide) fun v20 G21 s21 => ?_
    refine amount_Sum.use (xs := [bo, bp]) (OwnL.own (i := 0) s21 rfl).is (by simp) ?_
    refine wv_of (pair0 _) ?_
    refine wv_of (pair1 _) ?_
    rw [vbin_neq, wv_some, brB_ndec]
    refine ⟨fun h => no 1 G21 1 _ s21 rfl (by rw [hF]; unfold foldS; rw [if_neg fun hh => h ((sum_two bo bp).2 hh.2)]), fun h => ?_⟩
    have hA := (sum_two bo bp).1 h
    have hFM : F = foldM bo bp (ours.take co.toNat) (peers.take cp.toNat) := by rw [hF]; unfold foldS; rw [if_pos ⟨hC, hA⟩]
    obtain ⟨c1, c2, c3, c4⟩ := hC
    obtain ⟨l1, l2, _⟩ := count_load (RowL.own (i := 2) s21 rfl)
    refine wv_of l1 ?_
    obtain ⟨va, ea, ca⟩ := CapSl.take (ie := ti_api_Update) (k := .i64) (m := co.toNat) (x := co) T_sl_api_Update rfl T_api_Update hl (by omega) (by rw [List.length_map]; omega)
    refine wv_of ea ?_
    refine wv_of l2 ?_
    obtain ⟨vb, eb, cb⟩ := CapSl.take (ie := ti_api_Update) (k := .i64) (m := cp.toNat) (x := cp) T_sl_api_Update rfl T_api_Update hp (by omega) (by rw [List.length_map]; omega)
    refine wv_of eb ?_
    rw [← List.map_take] at ca cb
    obtain ⟨A, hAd⟩ : ∃ A, A = ours.take co.toNat := ⟨_, rfl⟩
    obtain ⟨B, hBd⟩ : ∃ A, A = peers.take cp.toNat := ⟨_, rfl⟩
    rw [← hAd] at ca hFM
    rw [← hBd] at cb hFM
    have okA : ∀ u ∈ A, u.ok := by rw [hAd]; exact fun u hu => hok u (List.mem_of_mem_take hu)
    have okB : ∀ u ∈ B, u.ok := by rw [hBd]; exact fun u hu => hok2 u (List.mem_of_mem_take hu)
    have lA : A.length ≤ 1048576 := by rw [hAd, List.length_take]; omega
    have lB : B.length ≤ 1048576 := by rw [hBd, List.length_take]; omega
    have iA : IsSl 36 G va (A.map UpdM.av) := ca.isSl
    have iB : IsSl 36 G vb (B.map UpdM.av) := cb.isSl
    intro J98
    have s21 : Sp [] G [OwnL 1 v20 [.int .i64 bo, .int .i64 bp], RowL i3 (ledV 0 0 .nilSlice), RowL i1 (pairW co cp)] G21 := s21
    have bad2 : ∀ G2, Sp [] G [OwnL 1 v20 [.int .i64 bo, .int .i64 bp], RowL i3 (ledV 0 0 .nilSlice), RowL i1 (pairW co cp)] G2 → (allV A = false ∨ allV B = false) → J98 (.bool true) G2 := by
      intro G2 s2 h
      simp -zeta only [J98, brB_true]
      exact no 120 G2 1 _ s2 rfl (by rw [hFM, foldM_bad h])
    have good2 : ∀ G2, Sp [] G [OwnL 1 v20 [.int .i64 bo, .int .i64 bp], RowL i3 (ledV 0 0 .nilSlice), RowL i1 (pairW co cp)] G2 → ¬ (allV A = false ∨ allV B = false) → J98 (.bool false) G2 := by
      intro G2 s2 h
      have vA : allV A = true := by
        cases hh : allV A with
        | true => rfl
        | false => exact absurd (.inl hh) h
      have vB : allV B = true := by
        cases hh : allV B with
        | true => rfl
        | false => exact absurd (.inr hh) h
      have aA := allV_spec vA
      have aB := allV_spec vB
      simp -zeta only [J98, brB_false]
      refine ledger_removals.use (iB.ch' s2.ch) okB (by omega) fun mid1 es1 G44 hes1 t44 => ?_
      obtain ⟨F44, o44, k44⟩ := t44.out
      have s44 := s2.new o44 k44
      refine wv_of (v := pairW 0 0) rfl ?_
      refine ledger_wide_plus.use (n := 0) ⟨by decide, by decide, by decide, by decide⟩ (by decide) hA.1 fun u0 l0 G47 c47 hw0 ht0 => ?_
      have s47 := s44.tmp c47
      refine wv_of (v := pairW 0 0) rfl ?_
      refine ledger_wide_plus.use (n := 0) ⟨by decide, by decide, by decide, by decide⟩ (by decide) hA.2.1 fun u1 l1 G50 c50 hw1 ht1 => ?_
      have s50 := s47.tmp c50
      have ht0 : totW u0 l0 = bo := by rw [ht0]; unfold totW; omega
      have ht1 : totW u1 l1 = bp := by rw [ht1]; unfold totW; omega
      refine ledger_part.use (n := 0 + 1) (iA.ch' s50.ch) okA aA lA (MapL.own (i := 0) s50 rfl) hes1 hw0 hw1 (by decide) fun a b d e w1 G52 x1 x2 y1 y2 t52 => ?_
      obtain ⟨F52, o52, k52⟩ := t52.out
      have s52 := s50.new o52 k52
      rw [ht0] at y1
      rw [ht1] at y2
      refine wv_of (tv0' _ _ _) ?_
      refine wv_of (tv1' _ _ _) ?_
      refine wv_of (tv2' _ _ _) ?_
      intro i56 f56
      have s57 := s52.row f56 (pairW 0 0)
      intro i58 f58
      have s59 := s57.row f58 (pairW 0 0)
      refine wide_store (i := 1) s59 rfl fun G60 s60 => ?_
      refine wide_store (i := 0) s60 rfl fun G61 s61 => ?_
      have s61 : Sp [] G [RowL i58 (pairW d e), RowL i56 (pairW a b), OwnL 35 w1 ((sortP (pensF true (opens B) A)).map PenM.av), MapL mid1 (mapE es1), OwnL 1 v20 [.int .i64 bo, .int .i64 bp], RowL i3 (ledV 0 0 .nilSlice), RowL i1 (pairW co cp)] G61 := s61
      refine wv_of (pair_load (RowL.own (i := 0) s61 rfl) T_ledger_wide rfl).2.2 ?_
      refine wv_of (pair_load (RowL.own (i := 1) s61 rfl) T_ledger_wide rfl).2.2 ?_
      refine ledger_removals.use (iA.ch' s61.ch) okA (by omega) fun mid2 es2 G65 hes2 t65 => ?_
      obtain ⟨F65, o65, k65⟩ := t65.out
      have s65 := s61.new o65 k65
      refine ⟨⟨(pair_load (RowL.own (i := 2) s65 rfl) T_ledger_wide rfl).2.2, (pair_load (RowL.own (i := 1) s65 rfl) T_ledger_wide rfl).2.2, trivial⟩, ?_⟩
      refine ledger_part.use (n := 0 + 1 + A.length) (iB.ch' s65.ch) okB aB lB (MapL.own (i := 0) s65 rfl) hes2 x2 x1 (by omega) fun a2 b2 d2 e2 w2 G67 z1 z2 q1 q2 t67 => ?_
      obtain ⟨F67, o67, k67⟩ := t67.out
      have s67 := s65.new o67 k67
      rw [y2] at q1
      rw [y1] at q2
      refine wv_of (tv0' _ _ _) ?_
      refine wv_of (tv1' _ _ _) ?_
      refine wv_of (tv2' _ _ _) ?_
      refine wide_store (i := 2) s67 rfl fun G71 s71 => ?_
      refine wide_store (i := 3) s71 rfl fun G72 s72 => ?_
      have s72 : Sp [] G [OwnL 35 w2 ((sortP (pensF false (opens A) B)).map PenM.av), MapL mid2 (mapE es2), RowL i58 (pairW a2 b2), RowL i56 (pairW d2 e2), OwnL 35 w1 ((sortP (pensF true (opens B) A)).map PenM.av), MapL mid1 (mapE es1), OwnL 1 v20 [.int .i64 bo, .int .i64 bp], RowL i3 (ledV 0 0 .nilSlice), RowL i1 (pairW co cp)] G72 := s72
      have qX : totW d2 e2 = foldX bo A B := by rw [q2]; unfold foldX; omega
      have qY : totW a2 b2 = foldY bp A B := by rw [q1]; unfold foldY; omega
      refine wv_of (pair_load (RowL.own (i := 3) s72 rfl) T_ledger_wide rfl).2.2 ?_
      refine wv_of (pair_load (RowL.own (i := 2) s72 rfl) T_ledger_wide rfl).2.2 ?_
      refine ledger_wide_value.use z2 (by omega) fun G76 c76 => ?_
      have s76 := s72.tmp c76
      refine ⟨⟨(pair_load (RowL.own (i := 2) s76 rfl) T_ledger_wide rfl).2.2, trivial⟩, ?_⟩
      refine ledger_wide_value.use z1 (by omega) fun G78 c78 => ?_
      have s78 := s76.tmp c78
      rw [qX, qY]
      have hlo := foldO_len A B
      unfold foldO at hlo
      rw [List.length_append] at hlo
      refine growL_pen (i := 4) s78 rfl (OwnL.own (i := 0) s78 rfl).is (sortP_ok (pensF_ok okB)) (by omega) fun w3 G80 s80 => ?_
      have s80 : Sp [] G [OwnL 35 w2 ((sortP (pensF false (opens A) B)).map PenM.av), MapL mid2 (mapE es2), RowL i58 (pairW a2 b2), RowL i56 (pairW d2 e2), OwnL 35 w3 ((foldO A B).map PenM.av), MapL mid1 (mapE es1), OwnL 1 v20 [.int .i64 bo, .int .i64 bp], RowL i3 (ledV 0 0 .nilSlice), RowL i1 (pairW co cp)] G80 := s80
      have lw3 := (OwnL.own (i := 4) s80 rfl).leaf
      refine wv_of (build_led lw3.1) ?_
      intro i82 f82
      have s83 := s80.row f82 (ledV 0 0 .nilSlice)
      refine led_store (i := 0) s83 rfl rfl lw3 fun G84 s84 => ?_
      have s84 : Sp [] G [RowL i82 (ledV (valueW (foldX bo A B)) (valueW (foldY bp A B)) w3), OwnL 35 w2 ((sortP (pensF false (opens A) B)).map PenM.av), MapL mid2 (mapE es2), RowL i58 (pairW a2 b2), RowL i56 (pairW d2 e2), OwnL 35 w3 ((foldO A B).map PenM.av), MapL mid1 (mapE es1), OwnL 1 v20 [.int .i64 bo, .int .i64 bp], RowL i3 (ledV 0 0 .nilSlice), RowL i1 (pairW co cp)] G84 := s84
      obtain ⟨X, hX⟩ : ∃ X, X = foldX bo A B := ⟨_, rfl⟩
      obtain ⟨Y, hY⟩ : ∃ Y, Y = foldY bp A B := ⟨_, rfl⟩
      have hfl := fold_le (bo := bo) (bp := bp) aA aB hA.2.2.2
      have hlow := foldM_low (bo := bo) (bp := bp) h
      have hfine := foldM_fine (bo := bo) (bp := bp) h
      rw [← hX, ← hY] at s84 hfl hlow hfine
      intro J97
      have low : (X < 0 ∨ Y < 0) → J97 (.bool true) G84 := by
        intro hh
        simp -zeta only [J97, brB_true]
        exact no 130 G84 8 _ s84 rfl (by rw [hFM, hlow hh])
      have fine : ¬ (X < 0 ∨ Y < 0) → J97 (.bool false) G84 := by
        intro hh
        simp -zeta only [J97, brB_false]
        have eX := (value_same (t := X) (by omega) (hfl.1 (by omega))).1
        have eY := (value_same (t := Y) (by omega) (hfl.2 (by omega))).1
        rw [eX, eY] at s84
        refine wv_of (led_load (i := 0) s84 rfl lw3).2.2.2 ?_
        refine led_store (i := 8) s84 rfl rfl lw3 fun G95 s95 => ?_
        refine wv_of (led_load (i := 8) s95 rfl lw3).2.2.2 ?_
        have hF2 : F = ⟨X, Y, foldO A B, 0⟩ := by rw [hFM, hfine hh]
        rw [hF2] at hQ
        refine hQ w3 G95 ?_
        exact ((((((((s95.erase 0).erase 0).erase 0).erase 0).erase 0).erase 1).erase 1).erase 1).erase 1
      refine wv_of (led_load (i := 0) s84 rfl lw3).1 ?_
      rw [vbin_lss, wv_some]
      by_cases h1 : valueW X < 0
      · rw [decide_eq_true h1, brB_true]
        exact low (.inl ((value_neg X).1 h1))
      · rw [decide_eq_false h1, brB_false]
        refine wv_of (led_load (i := 0) s84 rfl lw3).2.1 ?_
        rw [vbin_lss, wv_some]
        by_cases h2 : valueW Y < 0
        · rw [decide_eq_true h2]
          exact low (.inr ((value_neg Y).1 h2))
        · rw [decide_eq_false h2]
          exact fine fun hh => hh.elim (fun q => h1 ((value_neg X).2 q)) (fun q => h2 ((value_neg Y).2 q))
    refine contains.use (iA.ch' s21.ch) okA (by omega) fun G35 c35 => ?_
    have s35 := s21.tmp c35
    cases vA : allV A with
    | false => exact bad2 _ s35 (.inl vA)
    | true =>
      rw [Bool.not_true, brB_false]
      refine contains.use (iB.ch' s35.ch) okB (by omega) fun G37 c37 => ?_
      have s37 := s35.tmp c37
      cases vB : allV B with
      | false => exact bad2 _ s37 (.inr vB)
      | true => exact good2 _ s37 (by rw [vA, vB]; simp)
  obtain ⟨l1, l2, _⟩ := count_load (RowL.own (i := 1) s3 rfl)
  refine wv_of l1 ?_
  rw [vbin_lss, wv_some, brB_dec]
  refine ⟨fun h => bad fun hh => by have := hh.1; omega, fun h1 => ?_⟩
  refine wv_of l1 ?_
  refine wv_of (upd_len (hl.isSl.ch' s3.ch)) ?_
  rw [vbin_gtr, wv_some, brB_dec]
  refine ⟨fun h => bad fun hh => by have := hh.2.1; omega, fun h2 => ?_⟩
  refine wv_of l2 ?_
  rw [vbin_lss, wv_some, brB_dec]
  refine ⟨fun h => bad fun hh => by have := hh.2.2.1; omega, fun h3 => ?_⟩
  refine wv_of l2 ?_
  refine wv_of (upd_len (hp.isSl.ch' s3.ch)) ?_
  rw [vbin_gtr, wv_some]
  by_cases h4 : (peers.length : Int) < cp
  · rw [decide_eq_true h4]
    exact bad fun hh => by have := hh.2.2.2; omega
  · rw [decide_eq_false h4]
    exact good ⟨by omega, by omega, by omega, by omega⟩

end

end Go.Esc.M

/- Own work. Chapter 13: the document's Fold. -/
set_option linter.unusedSimpArgs false
set_option linter.unusedVariables false
set_option maxRecDepth 20000
namespace Go.Esc.M
open Go Go.Esc

section
variable {F0 : List AId} {G0 G : Heap} {ps : List LP} {Q : AVal → Heap → Prop}

end

end Go.Esc.M

/- Own work. Chapter 16: messages. -/
set_option linter.unusedSimpArgs false
set_option linter.unusedVariables false
set_option maxRecDepth 20000
namespace Go.Esc.M
open Go Go.Esc

structure MsgM where
  kind : Int
  id : Int
  amount : Int
  index : Int
  next : Int
  hash : List UInt8
  secret : List UInt8
  note : List UInt8
  deriving DecidableEq

def MsgM.cs (u : MsgM) : List AVal := [.int .i64 u.kind, .int .i64 u.id, .int .i64 u.amount, .int .i64 u.index, .int .i64 u.next, .agg (u.hash.map u8v), .agg (u.secret.map u8v), .str u.note]
def MsgM.av (u : MsgM) : AVal := .agg u.cs
def MsgM.zero : MsgM := ⟨0, 0, 0, 0, 0, h0, h0, []⟩
structure MsgM.ok (u : MsgM) : Prop where
  kind : I64 u.kind
  id : I64 u.id
  amount : I64 u.amount
  index : I64 u.index
  next : I64 u.next
  hash : u.hash.length = 32
  secret : u.secret.length = 32
  note : u.note.length ≤ 9223372036854775807
theorem MsgM.zero_ok : MsgM.zero.ok := ⟨i64_0, i64_0, i64_0, i64_0, i64_0, rfl, rfl, by decide⟩
theorem MsgM.sz {u : MsgM} (h : u.ok) : Esc.sz u.av = 70 := by simp [MsgM.av, MsgM.cs, Esc.sz, szs, szh h.hash, szh h.secret]
theorem MsgM.fits {u : MsgM} (h : u.ok) : vfits ti_api_Message u.av = true := by
  have h1 := MsgM.sz h
  have h2 : u.av.isAgg = true := rfl
  simp [vfits, h1, h2, ti_api_Message, ADesc.isAgg]
theorem MsgM.okv (u : MsgM) : Esc.okv u.av = true := by simp [MsgM.av, MsgM.cs, Esc.okv, okvs, okvs_u8]
theorem zMsg : z_api_Message = MsgM.zero.av := rfl

section
variable {F0 : List AId} {G0 G : Heap} {ps : List LP} {i : Nat} {id : AId} {u : MsgM} {Q : AVal → Heap → Prop}

theorem msg_load (hs : Sp F0 G0 ps G) (hi : ps[i]? = some (RowL id u.av)) (h : u.ok) :
    vload T G t_int (.ptr id [0] 0) = some (.int .i64 u.kind) ∧ vload T G t_int64 (.ptr id [1] 1) = some (.int .i64 u.id) ∧ vload T G t_int64 (.ptr id [2] 2) = some (.int .i64 u.amount) ∧ vload T G t_int64 (.ptr id [3] 3) = some (.int .i64 u.index) ∧
    vload T G t_int64 (.ptr id [4] 4) = some (.int .i64 u.next) ∧ vload T G t_api_Hash (.ptr id [5] 5) = some (.agg (u.hash.map u8v)) ∧ vload T G t_api_Hash (.ptr id [6] 37) = some (.agg (u.secret.map u8v)) ∧ vload T G t_string (.ptr id [7] 69) = some (.str u.note) ∧ vload T G t_api_Message (.ptr id [] 0) = some u.av := by
  have hg := RowL.own hs hi
  refine ⟨vload_fld (c := .int .i64 u.kind) hg rfl rfl rfl T_int rfl, vload_fld (c := .int .i64 u.id) hg rfl rfl rfl T_int64 rfl, vload_fld (c := .int .i64 u.amount) hg rfl rfl rfl T_int64 rfl, vload_fld (c := .int .i64 u.index) hg rfl rfl rfl T_int64 rfl, vload_fld (c := .int .i64 u.next) hg rfl rfl rfl T_int64 rfl,
    vload_fld (c := .agg (u.hash.map u8v)) hg rfl rfl rfl T_api_Hash (fits_hash h.hash), vload_fld (c := .agg (u.secret.map u8v)) hg rfl ?_ rfl T_api_Hash (fits_hash h.secret), vload_fld (c := .str u.note) hg rfl ?_ rfl T_string rfl, whole_load T_api_Message hg (MsgM.fits h)⟩
  · simp [MsgM.cs, szs, Esc.sz, szh h.hash]
  · simp [MsgM.cs, szs, Esc.sz, szh h.hash, szh h.secret]
theorem msg_store {u' : MsgM} (hs : Sp F0 G0 ps G) (hi : ps[i]? = some (RowL id u.av)) (h : u.ok) (h' : u'.ok) {K : Heap → Prop} (hK : ∀ G', Sp F0 G0 (ps.set i (RowL id u'.av)) G' → K G') : wg (vstore T G t_api_Message (.ptr id [] 0) u'.av) K := by
  refine wg_of (whole_store T_api_Message (RowL.own hs hi) (MsgM.fits h') (by rw [MsgM.sz h, MsgM.sz h']) (MsgM.okv _)) ?_
  exact hK _ (Sp.setRow hs hi _)
end
end Go.Esc.M

/- Own work. Chapter 16: messages written. -/
set_option linter.unusedSimpArgs false
set_option linter.unusedVariables false
set_option maxRecDepth 20000
namespace Go.Esc.M
open Go Go.Esc

section
variable {F0 : List AId} {G0 G : Heap} {ps : List LP} {i : Nat} {id : AId} {u : MsgM} {Q : AVal → Heap → Prop}

end
end Go.Esc.M

/- Own work. Chapter 16: messages compared, named. -/
set_option linter.unusedSimpArgs false
set_option linter.unusedVariables false
set_option maxRecDepth 20000
namespace Go.Esc.M
open Go Go.Esc

section
variable {F0 : List AId} {G0 G : Heap} {ps : List LP} {Q : AVal → Heap → Prop}

end
end Go.Esc.M
