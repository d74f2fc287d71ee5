import Derived.Test.YtooeiljhobdfpaaLCw
import Derived.Test.YtooeiljhobdfpaaLAr
/- Own work. Chapter 3: the readers. -/
set_option linter.unusedSimpArgs false
set_option linter.unusedVariables false
namespace Go.Esc.M
open Go Go.Esc

def Rd (id : AId) (st : List UInt8 × Int) (G : Heap) : Prop := G id = some (.own (.agg [.str st.1, .int .i64 st.2]))

section
variable {id : AId} {st : List UInt8 × Int} {G : Heap} {Q : AVal → Heap → Prop}

theorem Rd.fault (h : Rd id st G) : vload T G t_api_Errno (.ptr id [1] 1) = some (.int .i64 st.2) := vload_fld h rfl rfl rfl T_api_Errno rfl
theorem Rd.rest (h : Rd id st G) : vload T G t_string (.ptr id [0] 0) = some (.str st.1) := vload_fld h rfl rfl rfl T_string rfl

theorem ch_upd {o o' : AObj} (h : G id = some o) (ho : ∀ t, o ≠ .ro t) : Ch [id] G [id] (G.upd id o') :=
  ⟨roLe_upd h ho, fun j x hj hn => by rw [Heap.upd_ne _ _ (fun e => hn (by simp [e]))]; exact hj, fun j hj => .inl hj⟩

theorem Rd.setFault (h : Rd id st G) (f : Int) : ∃ G', vstore T G t_api_Errno (.ptr id [1] 1) (.int .i64 f) = some G' ∧ Rd id (st.1, f) G' ∧ Ch [id] G [id] G' :=
  ⟨_, vstore_fld h rfl rfl T_api_Errno rfl rfl rfl, Heap.upd_self _ _ _, ch_upd h (by simp)⟩
theorem Rd.setRest (h : Rd id st G) (l : List UInt8) : ∃ G', vstore T G t_string (.ptr id [0] 0) (.str l) = some G' ∧ Rd id (l, st.2) G' ∧ Ch [id] G [id] G' :=
  ⟨_, vstore_fld h rfl rfl T_string rfl rfl rfl, Heap.upd_self _ _ _, ch_upd h (by simp)⟩

theorem str_take {l : List UInt8} {k : IntKind} {n : Int} (h0 : 0 ≤ n) (h : n ≤ l.length) : vslice T t_string (.str l) none (some (.int k n)) none = some (.str (l.take n.toNat)) := by
  have e : n = (n.toNat : Int) := by omega
  have hb := sbounds_high (len := l.length) (cap := l.length) (m := n.toNat) (k := k) (by omega)
  rw [← e] at hb
  simp [vslice, T_string, ti_string, hb]
theorem str_drop {l : List UInt8} {k : IntKind} {n : Int} (h0 : 0 ≤ n) (h : n ≤ l.length) : vslice T t_string (.str l) (some (.int k n)) none none = some (.str (l.drop n.toNat)) := by
  have e : n = (n.toNat : Int) := by omega
  have hb := sbounds_low (len := l.length) (cap := l.length) (m := n.toNat) (k := k) (by omega) (by omega)
  rw [← e] at hb
  simp only [vslice, T_string, ti_string, hb]
  simp
  exact List.take_of_length_le (by simp)

/-- What a reader gives of so many bytes, and how it stands behind. -/
def takes (st : List UInt8 × Int) (n : Int) : List UInt8 × (List UInt8 × Int) :=
  if st.2 = 0 then (if (st.1.length : Int) < n then ([], ([], 2)) else (st.1.take n.toNat, (st.1.drop n.toNat, 0))) else ([], st)

/-- The number in bytes. -/
def numA : Nat → List UInt8 → Nat
  | v, [] => v
  | v, b :: l => numA (v * 256 + b.toNat) l
def num (l : List UInt8) : Nat := numA 0 l

theorem vindex_str {l : List UInt8} {j : Nat} (h : j < l.length) : vindex T t_string (.str l) (.int .i64 j) = some (.int .u8 l[j].toNat) := by
  simp [vindex, T_string, ti_string, h]

theorem or_byte (v b : Nat) (hb : b < 256) (hv : v * 256 < 2 ^ 64) : IntKind.u64.wrap ((BitVec.ofInt IntKind.u64.bits ((v * 256 : Nat) : Int) ||| BitVec.ofInt IntKind.u64.bits (b : Int)).toNat) = ((v * 256 + b : Nat) : Int) := by
  have hbits : IntKind.u64.bits = 64 := rfl
  have h1 : (BitVec.ofInt IntKind.u64.bits ((v * 256 : Nat) : Int) ||| BitVec.ofInt IntKind.u64.bits (b : Int)).toNat = v * 256 + b := by
    rw [BitVec.toNat_or, BitVec.ofInt_natCast, BitVec.ofInt_natCast, BitVec.toNat_ofNat, BitVec.toNat_ofNat, hbits, Nat.mod_eq_of_lt hv, Nat.mod_eq_of_lt (by omega)]
    have := Nat.two_pow_add_eq_or_of_lt (i := 8) (b := b) (by omega) v
    rw [Nat.mul_comm v 256]
    exact this.symm
  rw [h1, wrapU64]
  omega

theorem value_core {s : List UInt8} (hs : s.length ≤ 8) (K : AVal → Heap → Prop) (R : List AVal → Heap → Prop)
    (hR : ∀ (x4 x5 x6 x7 : AVal) (G3 : Heap), (wv (vbin T .lss t_int x7 x6) fun v8 => brB (some v8)
      (wv (vbin T .shl t_uint64 x5 (.int .u64 8)) fun v9 => wv (vindex T t_string x4 x7) fun v10 => wv (vconv T G3 t_uint8 t_uint64 v10) fun v11 => wv (vbin T .or t_uint64 v9 v11) fun v12 => wv (vbin T .add t_int x7 (.int .i64 1)) fun v13 => R [x4, v12, x6, v13] G3)
      (K x5 G3)) → R [x4, x5, x6, x7] G3) (hK : K (.int .u64 (num s)) G) : R [.str s, .int .u64 0, .int .i64 s.length, .int .i64 0] G := by
  have loop : ∀ (rest : List UInt8) (v j : Nat), s.drop j = rest → j ≤ s.length → v < 256 ^ j → numA v rest = num s → R [.str s, .int .u64 v, .int .i64 s.length, .int .i64 j] G := by
    intro rest
    induction rest with
    | nil =>
      intro v j hd hj hv he
      have := List.drop_eq_nil_iff.1 hd
      refine hR _ _ _ _ _ ?_
      simp -zeta only [vbin_lss, wv_some, brB_dec]
      refine ⟨fun h => absurd h (by omega), fun _ => ?_⟩
      simp only [numA] at he
      rw [he]
      exact hK
    | cons b rest ih =>
      intro v j hd hj hv he
      have hjl : j < s.length := by
        rcases Nat.lt_or_ge j s.length with h | h
        · exact h
        · rw [List.drop_eq_nil_iff.2 h] at hd; cases hd
      have hb : s[j] = b := by
        have := List.drop_eq_getElem_cons hjl
        rw [hd] at this
        injection this with h1 h2
        exact h1.symm
      have hv7 : v < 256 ^ 7 := Nat.lt_of_lt_of_le hv (Nat.pow_le_pow_right (by omega) (by omega))
      have hblt : b.toNat < 256 := b.toNat_lt
      refine hR _ _ _ _ _ ?_
      simp -zeta only [vbin_lss, wv_some, brB_dec]
      refine ⟨fun _ => ?_, fun h => absurd (by omega) h⟩
      have hsh : IntKind.u64.wrap ((v : Int) * 2 ^ min (Int.toNat 8) IntKind.u64.bits) = ((v * 256 : Nat) : Int) := by
        have : min (Int.toNat 8) IntKind.u64.bits = 8 := rfl
        rw [this, wrapU64]
        omega
      rw [vbin_shl _ _ _ _ _ _ (by omega), wv_some, hsh, vindex_str hjl, wv_some, hb, vconv_int T_uint8 T_uint64 rfl, wv_some, u64_in (n := (b.toNat : Int)) (by omega) (by omega), vbin_or, wv_some, or_byte v b.toNat hblt (by omega)]
      simp -zeta only [vbin_add, wv_some]
      rw [i64_in (by omega) (by omega)]
      refine ih (v * 256 + b.toNat) (j + 1) (by rw [← List.drop_drop, hd]; rfl) (by omega) ?_ he
      rw [Nat.pow_succ]
      omega
  exact loop s 0 0 rfl (by omega) (by simp) rfl

end
end Go.Esc.M

/- Own work. Chapter 3: the readers, all of their functions. -/
set_option linter.unusedSimpArgs false
set_option linter.unusedVariables false
namespace Go.Esc.M
open Go Go.Esc

theorem numA_lt : ∀ (l : List UInt8) (v : Nat), numA v l < (v + 1) * 256 ^ l.length
  | [], v => by simp [numA]
  | b :: l, v => by
    have h := numA_lt l (v * 256 + b.toNat)
    have hb : b.toNat < 256 := b.toNat_lt
    rw [numA, List.length_cons, Nat.pow_succ]
    refine Nat.lt_of_lt_of_le h ?_
    rw [Nat.mul_comm (256 ^ l.length) 256, ← Nat.mul_assoc]
    exact Nat.mul_le_mul_right _ (by omega)
theorem num_lt (l : List UInt8) : num l < 256 ^ l.length := by
  have := numA_lt l 0
  simpa [num] using this
theorem num_lt_of {l : List UInt8} {k : Nat} (h : l.length ≤ k) : num l < 256 ^ k := Nat.lt_of_lt_of_le (num_lt l) (Nat.pow_le_pow_right (by omega) h)

theorem length_takes (st : List UInt8 × Int) {n : Int} : (takes st n).1.length ≤ n.toNat := by
  unfold takes
  split
  · split
    · simp
    · simp; omega
  · simp

/-- A text of a reader's. -/
def texts (st : List UInt8 × Int) (most : Int) : List UInt8 × (List UInt8 × Int) :=
  if st.2 = 0 ∧ 2 ≤ st.1.length ∧ most < num (st.1.take 2) then ([], ([], 3)) else takes (takes st 2).2 (num (takes st 2).1)

def raws (st : List UInt8 × Int) (n : Int) : List UInt8 × (List UInt8 × Int) := if st.2 = 0 ∧ n < 0 then ([], ([], 1)) else takes st n

/-- The fault, or that bytes are left. -/
def dones (st : List UInt8 × Int) : Int := if st.2 = 0 ∧ st.1 ≠ [] then 4 else st.2

section
variable {id : AId} {st : List UInt8 × Int} {G : Heap} {Q : AVal → Heap → Prop}

end

theorem vbin_ptrnil {T : Tbl} {t e : TypeId} {i : TI} {id : AId} {p : List Nat} {o : Nat} (ht : T t = some i) (hd : i.desc = .pointer e) : vbin T .eql t (.ptr id p o) .nilPtr = some (.bool false) := by
  simp [vbin, veqD, ht, hd]

theorem Rd.ch {id : AId} {st : List UInt8 × Int} {G G' : Heap} {E E' : List AId} (h : Rd id st G) (hc : Ch E G E' G') (hd : id ∉ E) : Rd id st G' := hc.others _ _ h hd
theorem Rd.row {id : AId} {st : List UInt8 × Int} {G : Heap} (h : Rd id st G) : (G id).isSome = true := by rw [h]; rfl

end Go.Esc.M

/- Own work. Chapter 3: texts on the wire. -/
set_option linter.unusedSimpArgs false
set_option linter.unusedVariables false
namespace Go.Esc.M
open Go Go.Esc

theorem num_be2 {n : Nat} (h : n ≤ 65535) : num (be 2 n) = n := by
  simp only [be, num, numA]
  simp
  omega

/-- A text as it is laid. -/
def wire (s : List UInt8) : List UInt8 := be 2 s.length ++ s
theorem length_wire (s : List UInt8) : (wire s).length = s.length + 2 := by simp [wire, length_be]; omega
theorem wire_take2 (s : List UInt8) : (wire s).take 2 = be 2 s.length := by
  unfold wire
  rw [List.take_left' (length_be _ _)]

theorem texts_two {b : List UInt8} {most : Int} (h : 2 ≤ b.length) : texts (b, 0) most = if most < num (b.take 2) then ([], ([], 3)) else takes (b.drop 2, 0) (num (b.take 2)) := by
  unfold texts
  by_cases hm : most < num (b.take 2)
  · rw [if_pos ⟨rfl, h, hm⟩, if_pos hm]
  · rw [if_neg (fun hh => hm hh.2.2), if_neg hm]
    have : takes (b, 0) 2 = (b.take 2, (b.drop 2, 0)) := by
      unfold takes
      have hl : ¬ ((b.length : Int) < 2) := by omega
      simp [hl]
    rw [this]

theorem texts_short {b : List UInt8} {most : Int} (h : b.length < 2) : texts (b, 0) most = ([], ([], 2)) := by
  unfold texts
  rw [if_neg (fun hh => absurd hh.2.1 (Nat.not_le.2 h))]
  have : takes (b, 0) 2 = ([], ([], 2)) := by
    unfold takes
    have hl : (b.length : Int) < 2 := by omega
    simp [hl]
  rw [this]
  simp [takes]

theorem texts_wire {s more : List UInt8} {most : Int} (h : s.length ≤ 65535) : texts (wire s ++ more, 0) most = if most < s.length then ([], ([], 3)) else (s, (more, 0)) := by
  rw [texts_two (by simp [length_wire]; omega)]
  have h1 : (wire s ++ more).take 2 = be 2 s.length := by
    rw [List.take_append_of_le_length (by rw [length_wire]; omega), wire_take2]
  rw [h1, num_be2 h]
  by_cases hm : most < s.length
  · rw [if_pos hm, if_pos hm]
  · rw [if_neg hm, if_neg hm]
    have h2 : (wire s ++ more).drop 2 = s ++ more := by
      unfold wire
      rw [List.append_assoc, List.drop_left' (length_be _ _)]
    rw [h2]
    unfold takes
    have hl : ¬ (((s ++ more).length : Int) < s.length) := by rw [List.length_append]; omega
    simp only [if_true]
    rw [if_neg hl]
    simp

theorem takes_broken {st : List UInt8 × Int} {n : Int} (h : st.2 ≠ 0) : takes st n = ([], st) := by simp [takes, h]
theorem texts_broken {st : List UInt8 × Int} {n : Int} (h : st.2 ≠ 0) : texts st n = ([], st) := by
  unfold texts
  rw [if_neg (fun hh => h hh.1), takes_broken h, takes_broken h]

theorem laidText_new {s : List UInt8} (h : s.length ≤ 65535) : laidText ([], 0) s = (wire s, 0) := by
  have : ¬ 65535 < s.length := by omega
  simp [laidText, laid, this, wire]

theorem takes_app {a b : List UInt8} {n : Int} (h : (a.length : Int) = n) : takes (a ++ b, 0) n = (a, (b, 0)) := by
  subst h
  unfold takes
  have hl : ¬ (((a ++ b).length : Int) < a.length) := by rw [List.length_append]; omega
  simp only [if_true]
  rw [if_neg hl]
  simp

end Go.Esc.M

/- Own work. Chapter 3: a number's bytes: parts, there and back. -/
set_option linter.unusedSimpArgs false
set_option linter.unusedVariables false
namespace Go.Esc.M
open Go Go.Esc

theorem be_split (v b : Nat) : ∀ a, be (a + b) v = be a (v / 2 ^ (8 * b)) ++ be b v
  | 0 => by simp [be]
  | a + 1 => by
    have h := be_split v b a
    rw [show a + 1 + b = (a + b) + 1 by omega, be, be, h, Nat.div_div_eq_div_mul, ← Nat.pow_add, show 8 * b + 8 * a = 8 * (a + b) by omega]
    rfl

theorem be_mod (v m : Nat) : ∀ k, k ≤ m → be k (v % 2 ^ (8 * m)) = be k v
  | 0, _ => rfl
  | k + 1, hk => by
    rw [be, be, be_mod v m k (by omega)]
    congr 1
    have h1 : 2 ^ (8 * m) = 2 ^ (8 * k) * 2 ^ (8 * (m - k)) := by rw [← Nat.pow_add]; congr 1; omega
    have h2 : v % 2 ^ (8 * m) / 2 ^ (8 * k) = v / 2 ^ (8 * k) % 2 ^ (8 * (m - k)) := by rw [h1, Nat.mod_mul_right_div_self]
    have h3 : (256 : Nat) ∣ 2 ^ (8 * (m - k)) := by
      rw [show 8 * (m - k) = 8 + 8 * (m - k - 1) by omega, Nat.pow_add]
      exact Nat.dvd_mul_right _ _
    rw [h2]
    apply UInt8.toNat_inj.1
    simp [Nat.mod_mod_of_dvd _ h3]

theorem numA_be (v : Nat) : ∀ k w, numA w (be k v) = w * 2 ^ (8 * k) + v % 2 ^ (8 * k)
  | 0, w => by simp [be, numA, Nat.mod_one]
  | k + 1, w => by
    rw [be, numA, numA_be v k]
    have h1 : 2 ^ (8 * (k + 1)) = 2 ^ (8 * k) * 256 := by rw [show 8 * (k + 1) = 8 * k + 8 by omega, Nat.pow_add]
    rw [h1, Nat.mod_mul]
    have : (UInt8.ofNat (v / 2 ^ (8 * k))).toNat = v / 2 ^ (8 * k) % 256 := by simp
    rw [this, Nat.add_mul, ← Nat.mul_assoc, Nat.mul_assoc w 256, Nat.mul_comm 256 (2 ^ (8 * k)), ← Nat.mul_assoc, Nat.mul_comm (v / 2 ^ (8 * k) % 256)]
    omega

theorem num_be (v k : Nat) : num (be k v) = v % 2 ^ (8 * k) := by
  rw [num, numA_be]
  omega
theorem num_be_lt {v k : Nat} (h : v < 2 ^ (8 * k)) : num (be k v) = v := by rw [num_be, Nat.mod_eq_of_lt h]

/-- Bytes of a number: every list of so many is one. -/
theorem be_numA : ∀ (l : List UInt8) (w : Nat), be l.length (numA w l) = l
  | [], w => rfl
  | b :: l, w => by
    have hb : b.toNat < 256 := b.toNat_lt
    rw [numA, List.length_cons, be, be_numA l]
    congr 1
    have h : ∀ (l : List UInt8) (x : Nat), numA x l / 2 ^ (8 * l.length) = x := by
      intro l
      induction l with
      | nil => intro x; simp [numA]
      | cons c l ih =>
        intro x
        have hc : c.toNat < 256 := c.toNat_lt
        rw [numA, List.length_cons, show 8 * (l.length + 1) = 8 * l.length + 8 by omega, Nat.pow_add, ← Nat.div_div_eq_div_mul, ih]
        omega
    rw [h]
    apply UInt8.toNat_inj.1
    simp

theorem bits64_wrap {v : Nat} (h : v < 2 ^ 64) : bits64 (IntKind.i64.wrap v) = v := by
  rw [IntKind.wrap_i64]
  unfold bits64
  omega
theorem wrap_bits64' {n : Int} (h : I64 n) : IntKind.i64.wrap (bits64 n : Nat) = n := by
  have h1 := h.1
  have h2 := h.2
  rw [IntKind.wrap_i64]
  unfold bits64
  omega

/-- Bits beside one another. -/
theorem or_beside (a b k : Nat) (hb : b < 2 ^ k) (ha : a * 2 ^ k + b < 2 ^ 64) : IntKind.u64.wrap ((BitVec.ofInt IntKind.u64.bits ((a * 2 ^ k : Nat) : Int) ||| BitVec.ofInt IntKind.u64.bits (b : Int)).toNat) = ((a * 2 ^ k + b : Nat) : Int) := by
  have hbits : IntKind.u64.bits = 64 := rfl
  have h1 : (BitVec.ofInt IntKind.u64.bits ((a * 2 ^ k : Nat) : Int) ||| BitVec.ofInt IntKind.u64.bits (b : Int)).toNat = a * 2 ^ k + b := by
    rw [BitVec.toNat_or, BitVec.ofInt_natCast, BitVec.ofInt_natCast, BitVec.toNat_ofNat, BitVec.toNat_ofNat, hbits, Nat.mod_eq_of_lt (by omega), Nat.mod_eq_of_lt (by omega)]
    have := Nat.two_pow_add_eq_or_of_lt (i := k) (b := b) hb a
    rw [Nat.mul_comm a (2 ^ k)]
    exact this.symm
  rw [h1, wrapU64]
  omega

end Go.Esc.M

/- Own work. Chapter 3: the document's readers; hashes read. -/
set_option linter.unusedSimpArgs false
set_option linter.unusedVariables false
namespace Go.Esc.M
open Go Go.Esc

/-- A reader of the program's. -/
def RdL (id : AId) (st : List UInt8 × Int) : LP where
  p := fun G F => Rd id st G ∧ F = [id]
  rows := by rintro G F ⟨h, rfl⟩ j hj; simp at hj; subst hj; exact h.row
  loc := by rintro G G' F ⟨h, rfl⟩ hs; exact ⟨by unfold Rd at h ⊢; rw [hs id (by simp)]; exact h, rfl⟩

/-- A reader of the document's: what is left stays where it is broken. -/
def RdR (id : AId) (st : List UInt8 × Int) (G : Heap) : Prop := ∃ l, G id = some (.own (.agg [.str l, .int .i64 st.2])) ∧ (st.2 = 0 → l = st.1) ∧ (st.2 ≠ 0 → st.1 = [])
def RdRL (id : AId) (st : List UInt8 × Int) : LP where
  p := fun G F => RdR id st G ∧ F = [id]
  rows := by rintro G F ⟨⟨l, h, _⟩, rfl⟩ j hj; simp at hj; subst hj; rw [h]; rfl
  loc := by rintro G G' F ⟨⟨l, h, h'⟩, rfl⟩ hs; exact ⟨⟨l, by rw [hs id (by simp)]; exact h, h'⟩, rfl⟩

section
variable {id : AId} {st : List UInt8 × Int} {G : Heap} {Q : AVal → Heap → Prop}

theorem RdR.fault (h : RdR id st G) : vload T G t_api_Errno (.ptr id [1] 1) = some (.int .i64 st.2) := h.elim fun _ h => vload_fld h.1 rfl rfl rfl T_api_Errno rfl
theorem RdR.rest (h : RdR id st G) (h0 : st.2 = 0) : vload T G t_string (.ptr id [0] 0) = some (.str st.1) := h.elim fun l h => by rw [← h.2.1 h0]; exact vload_fld h.1 rfl rfl rfl T_string rfl
theorem RdR.ch {G' : Heap} {E E' : List AId} (h : RdR id st G) (hc : Ch E G E' G') (hd : id ∉ E) : RdR id st G' := h.elim fun l h => ⟨l, hc.others _ _ h.1 hd, h.2⟩
theorem RdR.row (h : RdR id st G) : (G id).isSome = true := h.elim fun l h => by rw [h.1]; rfl

/-- Broken by this fault, if it wasn't. -/
def brk (st : List UInt8 × Int) (e : Int) : List UInt8 × Int := if st.2 = 0 then ([], e) else st

theorem takes_short {b : List UInt8} {n : Int} (h : (b.length : Int) < n) : takes (b, 0) n = ([], ([], 2)) := by simp [takes, h]
theorem takes_ok {b : List UInt8} {n : Int} (h : ¬ (b.length : Int) < n) : takes (b, 0) n = (b.take n.toNat, (b.drop n.toNat, 0)) := by simp [takes, h]

end

section
variable {id : AId} {st : List UInt8 × Int} {G : Heap} {Q : AVal → Heap → Prop}

theorem takes_len32 (st : List UInt8 × Int) : (takes st 32).1.length ≤ 32 := length_takes st

end
end Go.Esc.M
