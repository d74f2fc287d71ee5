/- Own work. Chapter 10: ShelfKeeps. -/
import Derived.Test.YtcceblejaanfaaaDoorLVh
set_option linter.unusedSimpArgs false
set_option linter.unusedVariables false
namespace Go.Esc.M
open Go Go.Esc

theorem sp_swap {F0 : List AId} {G0 G : Heap} {ps : List LP} {p q : LP} (h : Sp F0 G0 (p :: q :: ps) G) : Sp F0 G0 (q :: p :: ps) G := by
  obtain ⟨Fs, h1, h2⟩ := h
  match Fs, h1 with
  | F1 :: F2 :: Fs, ⟨a, b, c, d, e⟩ =>
    refine ⟨F2 :: F1 :: Fs, ⟨c, fun j hj hm => ?_, a, fun j hj hm => ?_, e⟩, h2.ro, h2.others, fun j hj => h2.row j ?_⟩
    · simp only [List.flatten_cons, List.mem_append] at hm
      rcases hm with hm | hm
      · exact b j hm (by simp [hj])
      · exact d j hj hm
    · exact b j hj (by simp [hm])
    · simp only [List.flatten_cons, List.mem_append] at hj ⊢
      rcases hj with h | h | h <;> simp [h]

/-- Does b hang on a? -/
def hangs (a b : Int) : Prop := pl a / 2 ^ level (pl a) = pl b / 2 ^ level (pl a)
theorem hangs_iff {a b : Int} : hangs a b ↔ pl a ≤ pl b ∧ pl b - pl a < 2 ^ level (pl a) := near_iff (level_dvd _)
theorem tells_iff {n : Int} {s : SlotM} (hn : okN n = true) (hs : okN s.index = true) : tells n s ↔ s.full = true ∧ hangs s.index n := by
  unfold tells
  constructor
  · intro ⟨h1, h2⟩
    exact ⟨h1, (derive_inv (derive_zero h2)).2.2.1⟩
  · intro ⟨h1, h2⟩
    exact ⟨h1, by rw [derive_ok hs hn h2]⟩

/-- What holds of a shelf that took so many. -/
structure Took (L : List SlotM) (put : List (List UInt8)) : Prop where
  len : L.length ≤ 49
  few : put.length ≤ 127
  full : ∀ j, (atS L j).full = true → ∃ i : Nat, i < put.length ∧ (atS L j).index = (i : Int) ∧ level (pl (i : Int)) = j
  tell : ∀ j, (atS L j).full = true → ∀ m : Nat, m < put.length → hangs (atS L j).index (m : Int) → put[m]? = some (downS (pl (m : Int)) j (atS L j).secret)
  all : ∀ m : Nat, m < put.length → ∃ j, (atS L j).full = true ∧ hangs (atS L j).index (m : Int)

theorem okS {i : Nat} (h : i < 1000) : okN (i : Int) = true := okN_iff.2 ⟨by omega, by omega⟩
theorem plS {i : Nat} (h : i < 1000) : pl (i : Int) + i = 281474976710655 := by
  have := (pl_eq (okS h)).1
  omega
theorem took_nil : Took [] [] := by
  refine ⟨by decide, by decide, fun j h => ?_, fun j h => ?_, fun m h => by simp at h⟩
  · rw [atS_nil] at h
    cases h
  · rw [atS_nil] at h
    cases h

theorem dvd_gap {k a b : Nat} (ha : 2 ^ k ∣ a) (hb : 2 ^ k ∣ b) (h : a < b) : a + 2 ^ k ≤ b := by
  obtain ⟨c, rfl⟩ := ha
  obtain ⟨d, rfl⟩ := hb
  have hpos : 0 < 2 ^ k := Nat.pow_pos (by decide)
  have hcd : c < d := Nat.lt_of_mul_lt_mul_left h
  have : 2 ^ k * (c + 1) ≤ 2 ^ k * d := Nat.mul_le_mul_left _ hcd
  rw [Nat.mul_add, Nat.mul_one] at this
  exact this
theorem level_trans {a b m : Int} (ha : okN a = true) (h1 : hangs a b) (h2 : hangs b m) (hle : level (pl b) ≤ level (pl a)) : hangs a m := by
  unfold hangs at *
  rw [h1]
  have e : 2 ^ level (pl a) = 2 ^ level (pl b) * 2 ^ (level (pl a) - level (pl b)) := by rw [← Nat.pow_add]; congr 1; omega
  rw [e, ← Nat.div_div_eq_div_mul, ← Nat.div_div_eq_div_mul, h2]
theorem level_le_of {a b : Int} (ha : okN a = true) (h : hangs a b) : level (pl b) ≤ level (pl a) := by
  have h1 := hangs_iff.1 h
  have h2 := (pl_eq ha).2
  have := level_near (a := pl a) (x := pl b - pl a) h2 h1.2
  rwa [show pl a + (pl b - pl a) = pl b by omega] at this

theorem took_next {L : List SlotM} {put : List (List UInt8)} {s : List UInt8} (h : Took L put) (hf : put.length < 127) (hp : okputS L (put.length : Int) s = true) : Took (laidS L (put.length : Int) s) (put ++ [s]) := by
  obtain ⟨n, hn⟩ : ∃ n, n = put.length := ⟨_, rfl⟩
  rw [← hn] at hp hf ⊢
  have hno := okS (i := n) (by omega)
  have hpn := plS (i := n) (by omega)
  have hn2 := (pl_eq hno).2
  have hlv := level_le (pl (n : Int))
  have hlv48 : level (pl (n : Int)) < 48 := level_pos (by omega) hn2
  obtain ⟨lv, hlve⟩ : ∃ k, k = level (pl (n : Int)) := ⟨_, rfl⟩
  have hat : ∀ j, atS (laidS L (n : Int) s) j = if j < 49 then (if j = lv then ⟨(n : Int), s, true⟩ else atS L j) else zeroS := fun j => by rw [atS_laid, ← hlve]
  have hdn : 2 ^ lv ∣ pl (n : Int) := by rw [hlve]; exact level_dvd _
  refine ⟨by rw [laidS_len]; omega, by simp; omega, fun j hj => ?_, fun j hj m hm hh => ?_, fun m hm => ?_⟩
  · rw [hat] at hj ⊢
    by_cases h49 : j < 49
    · rw [if_pos h49] at hj ⊢
      by_cases hjl : j = lv
      · rw [if_pos hjl]
        exact ⟨n, by simp [hn], rfl, by rw [← hlve, hjl]⟩
      · rw [if_neg hjl] at hj ⊢
        obtain ⟨i, h1, h2, h3⟩ := h.full j hj
        exact ⟨i, by simp; omega, h2, h3⟩
    · rw [if_neg h49] at hj
      cases hj
  · rw [hat] at hj hh ⊢
    by_cases h49 : j < 49
    · rw [if_pos h49] at hj hh ⊢
      by_cases hjl : j = lv
      · rw [if_pos hjl] at hh ⊢
        dsimp only at hh ⊢
        by_cases hmn : m = n
        · subst hmn
          rw [hn, List.getElem?_append_right (by omega), Nat.sub_self, ← hn, hjl, down_none hdn _ _ (Nat.le_refl _)]
          rfl
        · have hmn : m < n := by simp at hm; omega
          rw [List.getElem?_append_left (by omega)]
          obtain ⟨q, hq, hqh⟩ := h.all m (by omega)
          obtain ⟨i, hi1, hi2, hi3⟩ := h.full q hq
          have hio := okS (i := i) (by omega)
          have hpi := plS (i := i) (by omega)
          rw [hi2] at hqh
          have e1 := hangs_iff.1 hh
          have e2 := hangs_iff.1 hqh
          rw [← hlve] at e1
          rw [hi3] at e2
          have hdi : 2 ^ q ∣ pl (i : Int) := by rw [← hi3]; exact level_dvd _
          have hql : q < lv := by
            refine Nat.lt_of_not_le fun hle => ?_
            have hd2 : 2 ^ lv ∣ pl (i : Int) := Nat.dvd_trans (Nat.pow_dvd_pow 2 hle) hdi
            have := dvd_gap hdn hd2 (by omega)
            omega
          have hni : hangs (n : Int) (i : Int) := hangs_iff.2 ⟨by omega, by rw [← hlve]; omega⟩
          have hb := okputS_iff.1 hp q (by omega)
          unfold badS at hb
          rw [hq, Bool.true_and] at hb
          have hd : deriveS s (n : Int) (atS L q).index = ((atS L q).secret, 0) := by
            by_cases h : deriveS s (n : Int) (atS L q).index = ((atS L q).secret, 0)
            · exact h
            · rw [decide_eq_false h] at hb
              cases hb
          have hsec := (derive_inv hd).2.2.2
          rw [hi2, ← hlve] at hsec
          have ht := h.tell q hq m (by omega) (by rw [hi2]; exact hqh)
          rw [ht, hsec]
          unfold hangs at hqh
          rw [hi3] at hqh
          have := down_via (a := pl (i : Int)) (b := pl (m : Int)) (k := q) (n := lv - q) (x := s) hdi hqh
          rw [show q + (lv - q) = lv by omega] at this
          rw [this, hjl]
      · rw [if_neg hjl] at hj hh ⊢
        obtain ⟨i, hi1, hi2, hi3⟩ := h.full j hj
        have hpi := plS (i := i) (by omega)
        rw [hi2] at hh
        have e1 := hangs_iff.1 hh
        have hmn : m < n := by
          have : m < n + 1 := by simpa [hn] using hm
          by_cases hmn : m = n
          · subst hmn; omega
          · omega
        rw [List.getElem?_append_left (by omega)]
        exact h.tell j hj m (by omega) (by rw [hi2]; exact hh)
    · rw [if_neg h49] at hj
      cases hj
  · by_cases hmn : m = n
    · subst hmn
      refine ⟨lv, ?_⟩
      rw [hat, if_pos (by omega), if_pos rfl]
      exact ⟨rfl, rfl⟩
    · have hmn : m < n := by simp at hm; omega
      obtain ⟨q, hq, hqh⟩ := h.all m (by omega)
      obtain ⟨i, hi1, hi2, hi3⟩ := h.full q hq
      have hq49 : q < 49 := by have := level_le (pl (i : Int)); omega
      by_cases hql : q = lv
      · have hpi := plS (i := i) (by omega)
        have hio := okS (i := i) (by omega)
        have hi48 := (pl_eq hio).2
        have hdi : 2 ^ lv ∣ pl (i : Int) := by rw [← hql, ← hi3]; exact level_dvd _
        have hgap := dvd_gap hdn hdi (by omega)
        obtain ⟨c, hc⟩ := level_form (p := pl (n : Int)) (by omega) hn2
        obtain ⟨d, hd⟩ := level_form (p := pl (i : Int)) (by omega) hi48
        rw [hi3, hql] at hd
        rw [← hlve] at hc
        have hcd : c < d := by
          refine Nat.lt_of_not_le fun hle => ?_
          have : 2 ^ lv * (2 * d + 1) ≤ 2 ^ lv * (2 * c + 1) := Nat.mul_le_mul_left _ (by omega)
          omega
        have hpow : 0 < 2 ^ lv := Nat.pow_pos (by decide)
        have hup : pl (i : Int) = 2 ^ lv * (2 * d) + 2 ^ lv := by rw [hd, Nat.mul_add, Nat.mul_one]
        have hlow : pl (n : Int) + 2 ^ lv ≤ 2 ^ lv * (2 * d) := by
          have : 2 ^ lv * (2 * c + 1 + 1) ≤ 2 ^ lv * (2 * d) := Nat.mul_le_mul_left _ (by omega)
          rw [Nat.mul_add _ (2 * c + 1), Nat.mul_one, ← hc] at this
          exact this
        have hpl2 : 2 ^ lv ≤ 1000 := by omega
        obtain ⟨p, hpe⟩ : ∃ p, p = i + 2 ^ lv := ⟨_, rfl⟩
        have hpn2 : p < n := by omega
        have hpp := plS (i := p) (by omega)
        have hpo := okS (i := p) (by omega)
        have hplp : pl (p : Int) = 2 ^ lv * (2 * d) := by omega
        have hlp : lv < level (pl (p : Int)) := by
          have hd1 : 2 ^ (lv + 1) ∣ pl (p : Int) := ⟨d, by rw [hplp, Nat.pow_succ, Nat.mul_assoc]⟩
          refine Nat.lt_of_not_le fun hle => ?_
          have hp48 := (pl_eq hpo).2
          obtain ⟨e, he⟩ := level_form (p := pl (p : Int)) (by omega) hp48
          have hd2 : 2 ^ (level (pl (p : Int)) + 1) ∣ pl (p : Int) := Nat.dvd_trans (Nat.pow_dvd_pow 2 (by omega)) hd1
          obtain ⟨e', he'⟩ := hd2
          have hpos : 0 < 2 ^ level (pl (p : Int)) := Nat.pow_pos (by decide)
          rw [Nat.pow_succ, Nat.mul_assoc] at he'
          have : 2 ^ level (pl (p : Int)) * (2 * e + 1) = 2 ^ level (pl (p : Int)) * (2 * e') := by rw [← he, ← he']
          have := Nat.eq_of_mul_eq_mul_left hpos this
          omega
        obtain ⟨r, hr, hrh⟩ := h.all p (by omega)
        obtain ⟨i2, hr1, hr2, hr3⟩ := h.full r hr
        have hr49 : r < 49 := by have := level_le (pl (i2 : Int)); omega
        have hi2o := okS (i := i2) (by omega)
        rw [hr2] at hrh
        have hle := level_le_of hi2o hrh
        have hpm : hangs (p : Int) (m : Int) := by
          rw [hi2] at hqh
          have e2 := hangs_iff.1 hqh
          rw [hi3, hql] at e2
          refine hangs_iff.2 ⟨by omega, ?_⟩
          have : 2 ^ (lv + 1) ≤ 2 ^ level (pl (p : Int)) := Nat.pow_le_pow_right (by decide) hlp
          rw [Nat.pow_succ] at this
          omega
        refine ⟨r, ?_⟩
        rw [hat, if_pos hr49, if_neg (by omega), hr2]
        exact ⟨hr, level_trans hi2o hrh hpm hle⟩
      · refine ⟨q, ?_⟩
        rw [hat, if_pos hq49, if_neg hql]
        exact ⟨hq, hqh⟩

theorem took_get {L : List SlotM} {put : List (List UInt8)} (h : Took L put) {m : Nat} {x : List UInt8} (hx : put[m]? = some x) : getS L (m : Int) = (x, 0) := by
  have hm := (List.getElem?_eq_some_iff.1 hx).1
  have hfew := h.few
  have hmo := okS (i := m) (by omega)
  obtain ⟨q, hq, hqh⟩ := h.all m hm
  obtain ⟨i, hi1, hi2, hi3⟩ := h.full q hq
  have ht := (tells_iff (s := atS L q) hmo (by rw [hi2]; exact okS (by omega))).2 ⟨hq, hqh⟩
  obtain ⟨j, _, hj, _, he⟩ := getL_some ht
  unfold getS
  have hlen := h.len
  rw [if_neg (by omega), if_pos hmo, he]
  obtain ⟨i2, hj1, hj2, hj3⟩ := h.full j hj.1
  have hi2o : okN (atS L j).index = true := by rw [hj2]; exact okS (by omega)
  have hjh := ((tells_iff hmo hi2o).1 hj).2
  have := h.tell j hj.1 m hm hjh
  rw [hx] at this
  injection this with this
  rw [derive_ok hi2o hmo hjh, this, hj2, hj3]
theorem took_none {L : List SlotM} {put : List (List UInt8)} (h : Took L put) {m : Nat} (h1 : put.length ≤ m) (h2 : m < 1000) : getS L (m : Int) = (zero32, 5) := by
  have hmo := okS (i := m) h2
  have hfew := h.few
  have hlen := h.len
  unfold getS
  rw [if_neg (by omega), if_pos hmo, getL_miss]
  intro q hq
  obtain ⟨i, hi1, hi2, hi3⟩ := h.full q hq.1
  have hio : okN (atS L q).index = true := by rw [hi2]; exact okS (by omega)
  have hh := ((tells_iff hmo hio).1 hq).2
  rw [hi2] at hh
  have e := hangs_iff.1 hh
  have p1 := plS (i := i) (by omega)
  have p2 := plS (i := m) h2
  omega

theorem level_ge {p j : Nat} (h0 : p ≠ 0) (hp : p < 2 ^ 48) (hd : 2 ^ j ∣ p) : j ≤ level p := by
  refine Nat.le_of_not_lt fun hlt => ?_
  obtain ⟨e, he⟩ := level_form h0 hp
  obtain ⟨e', he'⟩ := Nat.dvd_trans (Nat.pow_dvd_pow 2 (show level p + 1 ≤ j by omega)) hd
  have hpos : 0 < 2 ^ level p := Nat.pow_pos (by decide)
  rw [Nat.pow_succ, Nat.mul_assoc] at he'
  have : 2 ^ level p * (2 * e + 1) = 2 ^ level p * (2 * e') := by rw [← he, ← he']
  have := Nat.eq_of_mul_eq_mul_left hpos this
  omega
/-- What lies below hangs on the next. -/
theorem took_near {L : List SlotM} {put : List (List UInt8)} (h : Took L put) (hf : put.length < 127) {j : Nat} (hj : j < level (pl (put.length : Int))) (hfull : (atS L j).full = true) : hangs (put.length : Int) (atS L j).index := by
  obtain ⟨n, hn⟩ : ∃ n, n = put.length := ⟨_, rfl⟩
  rw [← hn] at hj hf ⊢
  have hpn := plS (i := n) (by omega)
  have hno := okS (i := n) (by omega)
  obtain ⟨i, hi1, hi2, hi3⟩ := h.full j hfull
  have hpi := plS (i := i) (by omega)
  have hdn : 2 ^ level (pl (n : Int)) ∣ pl (n : Int) := level_dvd _
  have hdj : 2 ^ j ∣ pl (n : Int) := Nat.dvd_trans (Nat.pow_dvd_pow 2 (by omega)) hdn
  have hdi : 2 ^ j ∣ pl (i : Int) := by rw [← hi3]; exact level_dvd _
  have hgap := dvd_gap hdj hdi (by omega)
  obtain ⟨m, hm⟩ : ∃ m, m = n - 2 ^ j := ⟨_, rfl⟩
  have hpow : 0 < 2 ^ j := Nat.pow_pos (by decide)
  have hpm := plS (i := m) (by omega)
  have hmo := okS (i := m) (by omega)
  have hplm : pl (m : Int) = pl (n : Int) + 2 ^ j := by omega
  have hdm : 2 ^ j ∣ pl (m : Int) := by rw [hplm]; exact Nat.dvd_add hdj (Nat.dvd_refl _)
  have hjl : (2 : Nat) ^ j < 2 ^ level (pl (n : Int)) := Nat.pow_lt_pow_right (by decide) hj
  obtain ⟨r, hr, hrh⟩ := h.all m (by omega)
  obtain ⟨i2, hr1, hr2, hr3⟩ := h.full r hr
  have hi2o := okS (i := i2) (by omega)
  have hp2 := plS (i := i2) (by omega)
  rw [hr2] at hrh
  have e := hangs_iff.1 hrh
  have hle := level_le_of hi2o hrh
  have hge := level_ge (by omega) (pl_eq hmo).2 hdm
  have hdr : 2 ^ r ∣ pl (i2 : Int) := by rw [← hr3]; exact level_dvd _
  have hrj : r = j := by
    by_cases h1 : r ≤ j
    · omega
    · by_cases h2 : r ≤ level (pl (n : Int))
      · have := dvd_gap (Nat.dvd_trans (Nat.pow_dvd_pow 2 h2) hdn) hdr (by omega)
        have : (2 : Nat) ^ j < 2 ^ r := Nat.pow_lt_pow_right (by decide) (by omega)
        omega
      · have := dvd_gap hdn (Nat.dvd_trans (Nat.pow_dvd_pow 2 (show level (pl (n : Int)) ≤ r by omega)) hdr) (by omega)
        omega
  subst hrj
  rw [hi2] at hr2
  have hii : (i : Int) = (i2 : Int) := hr2
  rw [hi2, hii]
  exact hangs_iff.2 ⟨by omega, by omega⟩
/-- A seed's own are taken. -/
theorem took_real {L : List SlotM} {put : List (List UInt8)} {root : List UInt8} (h : Took L put) (hf : put.length < 127) (hr : ∀ i : Nat, i < put.length → put[i]? = some (downS (pl (i : Int)) 48 root)) : okputS L (put.length : Int) (downS (pl (put.length : Int)) 48 root) = true := by
  refine okputS_iff.2 fun j hj => ?_
  unfold badS
  cases hfu : (atS L j).full with
  | false => rfl
  | true =>
    have hnear := took_near h hf hj hfu
    obtain ⟨i, hi1, hi2, hi3⟩ := h.full j hfu
    have hno := okS (i := put.length) (by omega)
    have hio := okS (i := i) (by omega)
    have hlv := level_le (pl (put.length : Int))
    rw [hi2] at hnear ⊢
    have hself := h.tell j hfu i hi1 (by rw [hi2]; rfl)
    have hd0 : downS (pl (i : Int)) j (atS L j).secret = (atS L j).secret := down_none (by rw [← hi3]; exact level_dvd _) j _ (Nat.le_refl _)
    rw [hr i hi1, hd0] at hself
    injection hself with hself
    have hv := down_via (a := pl (put.length : Int)) (b := pl (i : Int)) (k := level (pl (put.length : Int))) (n := 48 - level (pl (put.length : Int))) (x := root) (level_dvd _) hnear
    rw [show level (pl (put.length : Int)) + (48 - level (pl (put.length : Int))) = 48 by omega] at hv
    rw [derive_ok hno hio hnear, hv, hself, decide_eq_true rfl]
    rfl

def hav (h : List UInt8) : AVal := .agg (h.map u8v)
theorem hav_sz {h : List UInt8} (hl : h.length = 32) : sz (hav h) = 32 := by rw [hav, sz, szs_uni (uni_u8 h)]; simp [hl]

set_option maxHeartbeats 4000000 in
theorem law_ShelfKeeps {G : Heap} (hT : Tab G) {r k sp o : AVal} {m1 m2 m3 m4 : Nat} (h1 : wt T G reachBytes 4 t_api_Hash r m1) (h2 : wt T G reachBytes 4 t_int k m2) (h3 : wt T G reachBytes 4 t_int sp m3) (h4 : wt T G reachBytes 4 t_api_Hash o m4) :
    ACalls P escrowlaw10_ShelfKeeps.n [r, k, sp, o] G fun v _ => v = .bool true := by
  obtain ⟨root, rfl, hrl, _⟩ := wt_hash T_api_Hash rfl T_uint8 rfl h1
  obtain ⟨k, rfl, _, _⟩ := wt_int T_int rfl h2
  obtain ⟨spoilt, rfl, _, _⟩ := wt_int T_int rfl h3
  obtain ⟨other, rfl, hol, _⟩ := wt_hash T_api_Hash rfl T_uint8 rfl h4
  refine escrowlaw10_ShelfKeeps.sound ?_
  unfold escrowlaw10_ShelfKeeps.S
  intro i1 f1
  have s1 := (Sp.nil G).row f1 (.agg (root.map u8v))
  intro i3 f3
  have s3 := s1.row f3 (.agg (other.map u8v))
  refine escrowlaw10_first.use (hT.mono s3.ro) fun G6 c6 => ?_
  have s6 := s3.tmp c6
  rw [vun_not, wv_some, Bool.not_true, brB_false]
  have hmask := and_mask k 7 (by decide)
  have e1 : ((2 ^ 7 - 1 : Nat) : Int) = 127 := by decide
  have e2 : ((2 ^ 7 : Nat) : Int) = 128 := by decide
  rw [e1, e2] at hmask
  rw [vbin_and, hmask, wv_some]
  have k0 := Int.emod_nonneg k (show (128 : Int) ≠ 0 by decide)
  have k1 := Int.emod_lt_of_pos k (show (0 : Int) < 128 by decide)
  obtain ⟨K, hK⟩ : ∃ K : Nat, k % 128 = (K : Int) := ⟨(k % 128).toNat, by omega⟩
  rw [hK] at k1 ⊢
  intro J115
  have h115 : ∀ (lv pv : AVal) (L : List SlotM) (put : List (List UInt8)) (G' : Heap), Took L put → (∀ s ∈ L, s.ok) → (∀ h ∈ put, h.length = 32) → Sp [] G [OwnL 32 pv (put.map hav), OwnL 34 lv (L.map SlotM.av), RowL i3 (.agg (other.map u8v)), RowL i1 (.agg (root.map u8v))] G' → J115 lv pv G' := by
    intro lv pv L put G' took hLo hpl sp
    have hLl := took.len
    have hfew := took.few
    have plen : ∀ {ps : List LP} {q : Nat} {G' : Heap}, Sp [] G ps G' → ps[q]? = some (OwnL 32 pv (put.map hav)) → vlen T G' t_sl_api_Hash pv = some (.int .i64 (put.length : Nat)) := fun sp hq => by
      rw [(OwnL.own sp hq).is.len (i := ti_sl_api_Hash) T_sl_api_Hash rfl, List.length_map]
    simp -zeta only [J115]
    intro R hR
    have loop : ∀ (m j : Nat) (G' : Heap), put.length - j = m → j ≤ put.length → Sp [] G [OwnL 32 pv (put.map hav), OwnL 34 lv (L.map SlotM.av), RowL i3 (.agg (other.map u8v)), RowL i1 (.agg (root.map u8v))] G' → R [lv, pv, .int .i64 (j : Int)] G' := by
      intro m
      induction m with
      | zero =>
        intro j G' hm hj sp
        refine hR _ _ _ _ ?_
        refine wv_of (plen (q := 0) sp rfl) ?_
        rw [vbin_lss, wv_some, decide_eq_false (by omega), brB_false]
        refine wv_of (plen (q := 0) sp rfl) ?_
        intro R2 hR2
        have loop2 : ∀ (m j : Nat) (G' : Heap), put.length + 5 - j = m → put.length ≤ j → j ≤ put.length + 5 → Sp [] G [OwnL 32 pv (put.map hav), OwnL 34 lv (L.map SlotM.av), RowL i3 (.agg (other.map u8v)), RowL i1 (.agg (root.map u8v))] G' → R2 [lv, pv, .int .i64 (j : Int)] G' := by
          intro m
          induction m with
          | zero =>
            intro j G' hm hj1 hj sp
            refine hR2 _ _ _ _ ?_
            refine wv_of (plen (q := 0) sp rfl) ?_
            rw [vbin_add, i64_in (by omega) (by omega), wv_some, vbin_lss, wv_some, decide_eq_false (by omega), brB_false]
            trivial
          | succ m ih =>
            intro j G' hm hj1 hj sp
            refine hR2 _ _ _ _ ?_
            refine wv_of (plen (q := 0) sp rfl) ?_
            rw [vbin_add, i64_in (by omega) (by omega), wv_some, vbin_lss, wv_some, decide_eq_true (by omega), brB_true]
            refine shelf_Get.use (hT.mono sp.ro) (OwnL.own (i := 1) sp rfl).is hLo (by omega) fun G100 c100 => ?_
            have s100 := sp.tmp c100
            rw [took_none took hj1 (by omega)]
            refine wv_of (hi0 _) ?_
            refine wv_of (hi1 _) ?_
            refine newH s100 zero32_len fun i103 G105 s105 => ?_
            rw [nz0, wv_some, brB_false]
            refine wv_of (load_hash zero32_len (RowL.own (i := 0) s105 rfl)) ?_
            refine wv_of zero_hash2 ?_
            refine wv_of (hash_neq2 zero32_len zero32_len) ?_
            rw [show decide (zero32 = List.replicate 32 0) = true from decide_eq_true rfl, Bool.not_true, brB_false]
            rw [vbin_add, i64_in (by omega) (by omega), wv_some]
            exact ih (j + 1) G105 (by omega) (by omega) (by omega) (s105.erase 0)
        exact loop2 5 put.length G' (by omega) (by omega) (by omega) sp
      | succ m ih =>
        intro j G' hm hj sp
        obtain ⟨x, hx⟩ : ∃ x, put[j]? = some x := ⟨_, List.getElem?_eq_getElem (by omega)⟩
        have hxl := hpl x (List.mem_of_getElem? hx)
        refine hR _ _ _ _ ?_
        refine wv_of (plen (q := 0) sp rfl) ?_
        rw [vbin_lss, wv_some, decide_eq_true (by omega), brB_true]
        refine shelf_Get.use (hT.mono sp.ro) (OwnL.own (i := 1) sp rfl).is hLo (by omega) fun G74 c74 => ?_
        have s74 := sp.tmp c74
        rw [took_get took hx]
        refine wv_of (hi0 _) ?_
        refine wv_of (hi1 _) ?_
        refine newH s74 hxl fun i77 G79 s79 => ?_
        refine wv_of (load_hash hxl (RowL.own (i := 0) s79 rfl)) ?_
        obtain ⟨a, e1, e2⟩ := (OwnL.own (i := 1) s79 rfl).is.at_ (t := t_sl_api_Hash) (e := t_api_Hash) (i := ti_sl_api_Hash) (ie := ti_api_Hash) (k := .i64) (c := hav x) T_sl_api_Hash rfl T_api_Hash (by rw [List.getElem?_map, hx]; rfl) rfl
        refine wv_of e1 ?_
        refine wv_of e2 ?_
        refine wv_of (hash_neq2 hxl hxl) ?_
        rw [decide_eq_true rfl, Bool.not_true, brB_false, nz0, wv_some, brB_false]
        rw [vbin_add, i64_in (by omega) (by omega), wv_some]
        exact ih (j + 1) G79 (by omega) (by omega) (s79.erase 0)
    exact loop put.length 0 G' rfl (by omega) sp
  intro R hR
  have loop : ∀ (m : Nat) (lv pv : AVal) (L : List SlotM) (put : List (List UInt8)) (ow : Bool) (G' : Heap), K - put.length = m → put.length ≤ K → Took L put → (∀ s ∈ L, s.ok) → (∀ h ∈ put, h.length = 32) →
      (ow = true → ∀ i : Nat, i < put.length → put[i]? = some (downS (pl (i : Int)) 48 root)) → Sp [] G [OwnL 32 pv (put.map hav), OwnL 34 lv (L.map SlotM.av), RowL i3 (.agg (other.map u8v)), RowL i1 (.agg (root.map u8v))] G' →
      R [.int .i64 (K : Int), .int .i64 spoilt, .ptr i1 [] 0, .ptr i3 [] 0, lv, pv, .bool ow, .int .i64 ((put.length : Nat) : Int)] G' := by
    intro m
    induction m with
    | zero =>
      intro lv pv L put ow G' hm hj took hLo hpl how sp
      refine hR _ _ _ _ _ _ _ _ _ ?_
      rw [vbin_lss, wv_some, decide_eq_false (by omega), brB_false]
      exact h115 lv pv L put G' took hLo hpl sp
    | succ m ih =>
      intro lv pv L put ow G' hm hj took hLo hpl how sp
      refine hR _ _ _ _ _ _ _ _ _ ?_
      rw [vbin_lss, wv_some, decide_eq_true (by omega), brB_true]
      have hno := okS (i := put.length) (by omega)
      have hLl := took.len
      refine wv_of (load_hash hrl (RowL.own (i := 3) sp rfl)) ?_
      refine seed_Secret.use hrl fun G22 c22 => ?_
      have s22 := sp.tmp c22
      obtain ⟨S, hS⟩ : ∃ S, S = downS (pl (put.length : Int)) 48 root := ⟨_, rfl⟩
      have hSl : S.length = 32 := by rw [hS]; exact length_down _ hrl
      rw [secret_ok hno, ← hS]
      refine wv_of (hi0 _) ?_
      refine wv_of (hi1 _) ?_
      refine newH s22 hSl fun i25 G27 s27 => ?_
      rw [nz0, wv_some, brB_false]
      rw [vbin_eql, wv_some]
      intro J61
      have h61 : ∀ (b : Bool) (x : List UInt8) (G41 : Heap), x.length = 32 → (b = true → ow = true ∧ x = S) → Sp [] G [RowL i25 (.agg (x.map u8v)), OwnL 32 pv (put.map hav), OwnL 34 lv (L.map SlotM.av), RowL i3 (.agg (other.map u8v)), RowL i1 (.agg (root.map u8v))] G41 → J61 (.bool b) G41 := by
        intro b x G41 hxl hb s41
        simp -zeta only [J61]
        refine wv_of (load_hash hxl (RowL.own (i := 0) s41 rfl)) ?_
        refine shelf_Put.use (hT.mono s41.ro) (OwnL.own (i := 2) s41 rfl).is hLo (by omega) hxl fun w G45 t45 => ?_
        obtain ⟨F45, o45, c45⟩ := t45.out
        have s45 := s41.new o45 c45
        refine wv_of (tup0 _ _) ?_
        refine wv_of (tup1 _ _) ?_
        cases hp : okputS L (put.length : Int) x with
        | false =>
          have e : putS L (put.length : Int) x = ([], 100) := by unfold putS; rw [if_neg (by omega), if_pos hno, hp, if_neg (by simp)]
          rw [e] at s45 ⊢
          refine wv_of (v := .bool true) rfl ?_
          rw [brB_true]
          have hbf : b = false := Bool.eq_false_iff.2 fun h => by
            obtain ⟨h1, h2⟩ := hb h
            have := took_real took (by omega) (how h1)
            rw [← hS, ← h2, hp] at this
            cases this
          rw [hbf, brB_false, nz0, wv_some, brB_false]
          refine wv_of (v := .int .i64 0) (slots_len (l := []) (OwnL.own (i := 0) s45 rfl).is) ?_
          rw [nz0, wv_some, brB_false]
          exact h115 lv pv L put G45 took hLo hpl ((s45.erase 0).erase 0)
        | true =>
          have e : putS L (put.length : Int) x = (laidS L (put.length : Int) x, 0) := by unfold putS; rw [if_neg (by omega), if_pos hno, hp, if_pos rfl]
          rw [e] at s45 ⊢
          rw [nz0, wv_some, brB_false]
          refine wv_of (v := .int .i64 49) ?_ ?_
          · rw [slots_len (OwnL.own (i := 0) s45 rfl).is, laidS_len]; rfl
          rw [nz0, wv_some, brB_false]
          refine wv_of (load_hash hxl (RowL.own (i := 1) s45 rfl)) ?_
          refine growV (T := T) (ts := t_sl_api_Hash) (e := t_api_Hash) (si := ti_sl_api_Hash) (ie := ti_api_Hash) (i := 2) (c := hav x) T_sl_api_Hash rfl T_api_Hash (by rw [show ti_api_Hash.zero = z_api_Hash from rfl, sz32 hxl]; exact hav_sz hxl) (by decide) s45 rfl (hav_sz hxl) (okv32 x) (by decide) ?_ fun pv' G60 s60 => ?_
          · have hb : ti_api_Hash.bytes = 32 := rfl
            rw [hb, List.length_map]; omega
          have s60 : Sp [] G [OwnL 34 w ((laidS L (put.length : Int) x).map SlotM.av), RowL i25 (.agg (x.map u8v)), OwnL 32 pv' (put.map hav ++ [hav x]), OwnL 34 lv (L.map SlotM.av), RowL i3 (.agg (other.map u8v)), RowL i1 (.agg (root.map u8v))] G60 := s60
          have e3 : put.map hav ++ [hav x] = (put ++ [x]).map hav := by simp
          rw [e3] at s60
          have s60' : Sp [] G [OwnL 34 w ((laidS L (put.length : Int) x).map SlotM.av), OwnL 32 pv' ((put ++ [x]).map hav), RowL i3 (.agg (other.map u8v)), RowL i1 (.agg (root.map u8v))] G60 := (s60.erase 1).erase 2
          have s61 : Sp [] G [OwnL 32 pv' ((put ++ [x]).map hav), OwnL 34 w ((laidS L (put.length : Int) x).map SlotM.av), RowL i3 (.agg (other.map u8v)), RowL i1 (.agg (root.map u8v))] G60 := sp_swap s60'
          have hl1 : (put ++ [x]).length = put.length + 1 := by simp
          have ev : vbin T .add t_int (.int .i64 ((put.length : Nat) : Int)) (.int .i64 1) = some (.int .i64 (((put ++ [x]).length : Nat) : Int)) := by
            rw [vbin_add, i64_in (by omega) (by omega), hl1]
            rfl
          refine wv_of ev ?_
          refine ih w pv' _ (put ++ [x]) b G60 (by omega) (by omega) (took_next took (by omega) hp) (laidS_ok hLo hxl) (fun h hh => ?_) (fun hbt i hi => ?_) s61
          · rcases List.mem_append.1 hh with hh | hh
            · exact hpl h hh
            · rw [List.mem_singleton.1 hh]; exact hxl
          · obtain ⟨h1, h2⟩ := hb hbt
            by_cases hil : i < put.length
            · rw [List.getElem?_append_left hil]
              exact how h1 i hil
            · have : i = put.length := by omega
              subst this
              rw [List.getElem?_append_right (Nat.le_refl _), Nat.sub_self, h2, hS]
              rfl
      by_cases hsp : ((put.length : Nat) : Int) = spoilt
      · rw [decide_eq_true hsp, brB_true]
        cases ow with
        | false =>
          rw [brB_false]
          refine wv_of (load_hash hol (RowL.own (i := 3) s27 rfl)) ?_
          refine wg_of (store_hash hSl hol (RowL.own (i := 0) s27 rfl)) ?_
          exact h61 false other _ hol (fun h => by cases h) (Sp.setRow (j := 0) s27 rfl _)
        | true =>
          rw [brB_true]
          refine wv_of (load_hash hSl (RowL.own (i := 0) s27 rfl)) ?_
          refine wv_of (load_hash hol (RowL.own (i := 3) s27 rfl)) ?_
          refine wv_of (hash_eql2 hSl hol) ?_
          refine wv_of (load_hash hol (RowL.own (i := 3) s27 rfl)) ?_
          refine wg_of (store_hash hSl hol (RowL.own (i := 0) s27 rfl)) ?_
          exact h61 _ other _ hol (fun h => ⟨rfl, (of_decide_eq_true h).symm⟩) (Sp.setRow (j := 0) s27 rfl _)
      · rw [decide_eq_false hsp, brB_false]
        exact h61 ow S G27 hSl (fun h => ⟨h, rfl⟩) s27
  exact loop K .nilSlice .nilSlice [] [] true G6 (by simp) (by simp) took_nil nil_ok (fun h hh => by cases hh) (fun _ i hi => by simp at hi) ((s6.nilL 34).nilL 32)

end Go.Esc.M
