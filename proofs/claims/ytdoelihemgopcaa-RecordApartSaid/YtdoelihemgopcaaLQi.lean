import Derived.Test.YtdoelihemgopcaaLQd
import Derived.Test.YtdoelihemgopcaaLNb
import Derived.Test.YtdoelihemgopcaaLFa
/- Own work. Chapter 17: the document's Same, Valid and Write. -/
set_option linter.unusedSimpArgs false
set_option linter.unusedVariables false
set_option maxRecDepth 20000
namespace Go.Esc.M
open Go Go.Esc

section
variable {F0 : List AId} {G0 G : Heap} {ps : List LP} {Q : AVal → Heap → Prop}

theorem bR0 {k : Int} : vbuild T t_api_Record [(0, .int .i64 k)] = some (({ RcM.zero with kind := k } : RcM).av .nilSlice) := rfl

end
end Go.Esc.M

/- Own work. Chapter 17: the document's Write. -/
set_option linter.unusedSimpArgs false
set_option linter.unusedVariables false
set_option maxRecDepth 20000
namespace Go.Esc.M
open Go Go.Esc

section
variable {F0 : List AId} {G0 G : Heap} {ps : List LP} {Q : AVal → Heap → Prop}

end
end Go.Esc.M

/- Own work. Chapter 17: Read, in the program. -/
set_option linter.unusedSimpArgs false
set_option linter.unusedVariables false
set_option maxRecDepth 20000
namespace Go.Esc.M
open Go Go.Esc

def readL : Nat → List UInt8 → Option (List UpdM × List UInt8)
  | 0, b => some ([], b)
  | n + 1, b => if (readU b).2.2 = 0 then (readL n (b.drop (readU b).2.1.toNat)).map fun x => ((readU b).1 :: x.1, x.2) else none
structure ParM where
  x : RcM
  l : List UpdM
  st : List UInt8 × Int
  ok : Bool
def iOf (l : List UInt8) : Int := IntKind.i64.wrap (num l : Nat)
def kOf (b : List UInt8) : Nat := num (takes (b, 0) 1).1
def s1Of (b : List UInt8) : List UInt8 × Int := (takes (b, 0) 1).2
def rk (k : Int) : RcM := { RcM.zero with kind := k }
def par1 (s : List UInt8 × Int) : ParM :=
  match readL 1 s.1 with
  | some ([u], t) => ⟨{ rk 1 with upd := u }, [], (t, 0), true⟩
  | _ => ⟨rk 1, [], s, false⟩
def par2 (s : List UInt8 × Int) : ParM :=
  ⟨{ rk 2 with index := iOf (takes s 8).1, cntA := (num (takes (takes s 8).2 2).1 : Nat), cntB := (num (takes (takes (takes s 8).2 2).2 2).1 : Nat) }, [], (takes (takes (takes s 8).2 2).2 2).2, true⟩
def par3 (s : List UInt8 × Int) : ParM :=
  let c := takes (takes s 8).2 2
  if c.2.2 = 0 ∧ num c.1 ≤ 512 then
    match readL (num c.1) c.2.1 with
    | some (l, t) => ⟨{ rk 3 with index := iOf (takes s 8).1, sig := fill 32 (takes (t, 0) 32).1 }, l, (takes (t, 0) 32).2, true⟩
    | none => ⟨{ rk 3 with index := iOf (takes s 8).1 }, [], c.2, false⟩
  else ⟨{ rk 3 with index := iOf (takes s 8).1 }, [], c.2, false⟩
def par4 (s : List UInt8 × Int) : ParM :=
  ⟨{ rk 4 with index := iOf (takes s 8).1, secret := fill 32 (takes (takes s 8).2 32).1, point := fill 32 (takes (takes (takes s 8).2 32).2 32).1 }, [], (takes (takes (takes s 8).2 32).2 32).2, true⟩
def par5 (s : List UInt8 × Int) : ParM := ⟨{ rk 5 with code := (num (takes s 2).1 : Nat) }, [], (takes s 2).2, true⟩
def par6 (s : List UInt8 × Int) : ParM := ⟨{ rk 6 with index := iOf (takes s 8).1 }, [], (takes s 8).2, true⟩
def parR (b : List UInt8) : ParM :=
  if kOf b = 1 then par1 (s1Of b) else if kOf b = 2 then par2 (s1Of b) else if kOf b = 3 then par3 (s1Of b) else if kOf b = 4 then par4 (s1Of b)
  else if kOf b = 5 then par5 (s1Of b) else if kOf b = 6 then par6 (s1Of b) else ⟨rk (kOf b : Nat), [], s1Of b, true⟩
structure OutM where
  x : RcM
  l : List UpdM
  n : Int
  e : Int
def readR (b : List UInt8) : OutM :=
  let p := parR b
  if p.ok = true ∧ p.st.2 = 0 ∧ validR p.x p.l = true then ⟨p.x, p.l, ((b.length - p.st.1.length : Nat) : Int), 0⟩ else ⟨RcM.zero, [], 0, 170⟩

theorem takes_le (s : List UInt8 × Int) (n : Int) : (takes s n).2.1.length ≤ s.1.length := by
  unfold takes
  split
  · split
    · simp
    · rw [List.length_drop]; omega
  · exact Nat.le_refl _
theorem s1_le (b : List UInt8) : (s1Of b).1.length ≤ b.length := takes_le (b, 0) 1
theorem kOf_lt (b : List UInt8) : kOf b < 256 := num_lt_of (k := 1) (length_takes _)
theorem readL_le : ∀ (n : Nat) {b : List UInt8} {l : List UpdM} {t : List UInt8}, readL n b = some (l, t) → t.length ≤ b.length ∧ l.length = n
  | 0, b, l, t, h => by
    rw [readL] at h
    injection h with h
    injection h with h1 h2
    subst h1 h2
    exact ⟨Nat.le_refl _, rfl⟩
  | n + 1, b, l, t, h => by
    rw [readL] at h
    split at h
    · cases hr : readL n (b.drop (readU b).2.1.toNat) with
      | none => rw [hr] at h; cases h
      | some x =>
        obtain ⟨l', t'⟩ := x
        rw [hr] at h
        injection h with h
        injection h with h1 h2
        simp only at h1 h2
        subst h1 h2
        have := readL_le n hr
        rw [List.length_drop] at this
        exact ⟨by omega, by simp [this.2]⟩
    · cases h
theorem readL_ok : ∀ (n : Nat) {b : List UInt8} {l : List UpdM} {t : List UInt8}, b.length ≤ 9223372036854775807 → readL n b = some (l, t) → ∀ u ∈ l, u.ok
  | 0, b, l, t, hb, h => by
    rw [readL] at h
    injection h with h
    injection h with h1 h2
    subst h1
    intro u hu; cases hu
  | n + 1, b, l, t, hb, h => by
    rw [readL] at h
    split at h
    · cases hr : readL n (b.drop (readU b).2.1.toNat) with
      | none => rw [hr] at h; cases h
      | some x =>
        obtain ⟨l', t'⟩ := x
        rw [hr] at h
        injection h with h
        injection h with h1 h2
        simp only at h1 h2
        subst h1 h2
        have ih := readL_ok n (by rw [List.length_drop]; omega) hr
        intro u hu
        rcases List.mem_cons.1 hu with rfl | hu
        · exact readU_ok hb
        · exact ih u hu
    · cases h
theorem iOf_ok (l : List UInt8) : I64 (iOf l) := hw64 _
theorem n2_lt (s : List UInt8 × Int) : num (takes s 2).1 < 65536 := num_lt_of (k := 2) (length_takes _)
theorem n2_i64 (s : List UInt8 × Int) : I64 ((num (takes s 2).1 : Nat) : Int) := by
  have := n2_lt s
  exact i64_n _ (by omega) (by omega)
theorem fill_tk (s : List UInt8 × Int) : (fill 32 (takes s 32).1).length = 32 := length_fill (length_takes _)
theorem rk_ok {k : Int} (h : I64 k) : (rk k).ok := ⟨h, UpdM.zero_ok, i64_0, i64_0, i64_0, rfl, rfl, rfl, i64_0⟩

section
variable {F0 : List AId} {G0 G : Heap} {ps : List LP} {Q : AVal → Heap → Prop}

theorem sp_swap {p q : LP} (h : Sp F0 G0 (p :: q :: ps) G) : Sp F0 G0 (q :: p :: ps) G := by
  obtain ⟨Fs, h1, h2⟩ := h
  match Fs, h1 with
  | E :: E' :: Fs, ⟨a, b, c, d, e⟩ =>
    refine ⟨E' :: E :: Fs, ⟨c, fun j hj hm => ?_, a, fun j hj hm => ?_, e⟩, h2.ro, h2.others, fun j hj => h2.row j ?_⟩
    · simp only [List.flatten_cons, List.mem_append] at hm
      rcases hm with hm | hm
      · exact b j hm (by simp only [List.flatten_cons, List.mem_append]; exact .inl hj)
      · exact d j hj hm
    · exact b j hj (by simp only [List.flatten_cons, List.mem_append]; exact .inr hm)
    · simp only [List.flatten_cons, List.mem_append] at hj ⊢
      rcases hj with hj | hj | hj
      · exact .inr (.inl hj)
      · exact .inl hj
      · exact .inr (.inr hj)
theorem u_loc0 {x y z : AVal} : vextract (.tuple [x, y, z]) 0 = some x ∧ vextract (.tuple [x, y, z]) 1 = some y ∧ vextract (.tuple [x, y, z]) 2 = some z := ⟨rfl, rfl, rfl⟩

set_option maxHeartbeats 2000000 in
theorem record_updates.use {b : List UInt8} {n : Nat} (hbl : b.length ≤ 9223372036854775807) (hn : n ≤ 65535)
    (hno : readL n b = none → ∀ G', Ch [] G [] G' → Q (.tuple [.nilSlice, .str [], .bool false]) G')
    (hQ : ∀ l t w G', readL n b = some (l, t) → Sp [] G [OwnL 36 w (l.map UpdM.av)] G' → Q (.tuple [w, .str t, .bool true]) G') : ACalls P record_updates.n [.str b, .int .i64 (n : Nat)] G Q := by
  refine record_updates.sound ?_
  unfold record_updates.S
  intro R hR
  have loop : ∀ (m j : Nat) (c : List UInt8) (acc : List UpdM) (w : AVal) (G' : Heap), n - j = m → j ≤ n → acc.length = j → c.length ≤ 9223372036854775807 → readL n b = (readL m c).map (fun x => (acc ++ x.1, x.2)) → Sp [] G [OwnL 36 w (acc.map UpdM.av)] G' →
      R [.str c, w, .int .i64 (n : Nat), .int .i64 (j : Int)] G' := by
    intro m
    induction m with
    | zero =>
      intro j c acc w G' hm hj ha hc he s
      refine hR _ _ _ _ _ ?_
      rw [vbin_lss, wv_some, brB_dec]
      refine ⟨fun h => absurd h (by omega), fun _ => ?_⟩
      rw [readL] at he
      simp only [Option.map_some, List.append_nil] at he
      exact hQ acc c w G' he s
    | succ m ih =>
      intro j c acc w G' hm hj ha hc he s
      refine hR _ _ _ _ _ ?_
      rw [vbin_lss, wv_some, brB_dec]
      refine ⟨fun _ => ?_, fun h => absurd (by omega) h⟩
      refine update_Read.use hc fun G9 c9 => ?_
      have s9 := s.tmp c9
      have huo := readU_ok hc
      have hcs := readU_cases hc
      rw [readL] at he
      obtain ⟨X, hX⟩ : ∃ X, X = readU c := ⟨_, rfl⟩
      rw [← hX] at he huo hcs ⊢
      refine wv_of (u_loc0).1 ?_
      refine wv_of (u_loc0).2.1 ?_
      refine wv_of (u_loc0).2.2 ?_
      refine newU s9 huo fun i13 G15 s15 => ?_
      rw [vbin_neq, wv_some, brB_ndec]
      refine ⟨fun h1 => ?_, fun h1 => ?_⟩
      · rw [if_neg h1] at he
        exact hno he _ s15.ch
      · rw [if_pos h1] at he
        have hk : ∃ k : Nat, X.2.1 = (k : Int) ∧ k ≤ c.length := by
          rcases hcs with ⟨e, he2, hx⟩ | ⟨u, k, hx, _, _, _, hk, _⟩
          · rw [hx] at h1; simp only at h1; omega
          · exact ⟨k, by rw [hx], hk⟩
        clear hcs
        obtain ⟨k, hk1, hk2⟩ := hk
        refine wv_of (upd_load (i := 0) s15 rfl huo).2.2.2.2.2 ?_
        refine growV (T := T) (ts := t_sl_api_Update) (e := t_api_Update) (si := ti_sl_api_Update) (ie := ti_api_Update) (i := 1) (vs := acc.map UpdM.av) T_sl_api_Update rfl T_api_Update rfl (by decide) s15 rfl (UpdM.sz huo) (UpdM.okv _) (by decide) (by rw [List.length_map]; simp only [ti_api_Update]; omega) fun w' G21 s21 => ?_
        refine wv_of (str_drop (by rw [hk1]; omega) (by rw [hk1]; omega)) ?_
        rw [vbin_add, i64_in (by omega) (by omega), wv_some]
        rw [hk1, Int.toNat_natCast] at he ⊢
        refine ih (j + 1) (c.drop k) (acc ++ [X.1]) w' G21 (by omega) (by omega) (by simp [ha]) (by rw [List.length_drop]; omega) ?_ ?_
        · rw [he, Option.map_map]
          congr 1
          funext x
          simp
        · have := s21.erase 0
          rw [List.map_append]
          exact this
  refine loop n 0 b [] .nilSlice G rfl (by omega) rfl hbl ?_ ((Sp.nil G).nilL 36)
  cases readL n b <;> simp

set_option maxHeartbeats 8000000 in
theorem record_Read.use {b : List UInt8} (hbl : b.length ≤ 9223372036854775807)
    (hQ : ∀ w G', Sp [] G [OwnL 36 w ((readR b).l.map UpdM.av)] G' → Q (.tuple [(readR b).x.av w, .int .i64 (readR b).n, .int .i64 (readR b).e]) G') : ACalls P record_Read.n [.str b] G Q := by
  refine record_Read.sound ?_
  unfold record_Read.S
  rw [zRec]
  unfold readR at hQ
  intro i1 f1
  have s1 := (Sp.nil G).row f1 (RcM.zero.av .nilSlice)
  refine cursor_Open.use fun ir G4 r4 c4 => ?_
  have s4 := s1.new (p := RdL ir (b, 0)) ⟨r4, rfl⟩ c4
  refine rd (i := 0) s4 rfl (fun h k => cursor_Reader_U8.use h k) fun G6 s6 => ?_
  have hk8 := kOf_lt b
  have hsl := s1_le b
  have s6 : Sp [] G [RdL ir (s1Of b), RowL i1 (RcM.zero.av .nilSlice)] G6 := s6
  show wv (vconv T G6 t_uint8 t_int (.int .u8 ((kOf b : Nat) : Int))) _
  unfold parR at hQ
  obtain ⟨k, hkk⟩ : ∃ k, k = kOf b := ⟨_, rfl⟩
  obtain ⟨S, hS⟩ : ∃ S, S = s1Of b := ⟨_, rfl⟩
  rw [← hkk] at hk8 hQ ⊢
  rw [← hS] at hsl hQ s6
  rw [vconv_int T_uint8 T_int rfl, i64_in (by omega) (by omega), wv_some]
  have hz : (rk (k : Nat)).ok := rk_ok (i64_n _ (by omega) (by omega))
  refine wv_of (v := (rk (k : Nat)).av .nilSlice) bR0 ?_
  refine Rc.nw s6 hz Leaf.nil fun i9 G11 s11 => ?_
  refine wv_of (Rc.ld_kind (RowL.own (i := 0) s11 rfl) hz Leaf.nil) ?_
  intro J126
  have fin : ∀ (p : ParM) (q : ParM) (ir' : AId) (w : AVal) (G' : Heap), q = p → p.x.ok → (∀ u ∈ p.l, u.ok) → p.l.length ≤ 140737488351232 → p.st.1.length ≤ b.length →
      (∀ w G', Sp [] G [OwnL 36 w ((if p.ok = true ∧ p.st.2 = 0 ∧ validR p.x p.l = true then (⟨p.x, p.l, ((b.length - p.st.1.length : Nat) : Int), 0⟩ : OutM) else ⟨RcM.zero, [], 0, 170⟩).l.map UpdM.av)] G' → Q (.tuple [(if p.ok = true ∧ p.st.2 = 0 ∧ validR p.x p.l = true then (⟨p.x, p.l, ((b.length - p.st.1.length : Nat) : Int), 0⟩ : OutM) else ⟨RcM.zero, [], 0, 170⟩).x.av w, .int .i64 (if p.ok = true ∧ p.st.2 = 0 ∧ validR p.x p.l = true then (⟨p.x, p.l, ((b.length - p.st.1.length : Nat) : Int), 0⟩ : OutM) else ⟨RcM.zero, [], 0, 170⟩).n, .int .i64 (if p.ok = true ∧ p.st.2 = 0 ∧ validR p.x p.l = true then (⟨p.x, p.l, ((b.length - p.st.1.length : Nat) : Int), 0⟩ : OutM) else ⟨RcM.zero, [], 0, 170⟩).e]) G') →
      Sp [] G [RdL ir' p.st, OwnL 36 w (p.l.map UpdM.av), RowL i9 (p.x.av w), RowL i1 (RcM.zero.av .nilSlice)] G' → J126 (.ptr ir' [] 0) (.bool p.ok) G' := by
    intro p q ir' w G' _ hx hl hll hst hQ s
    have lw := (OwnL.own (i := 1) s rfl).leaf
    simp -zeta only [J126]
    intro J125
    have bad : ∀ G', ¬ (p.ok = true ∧ p.st.2 = 0 ∧ validR p.x p.l = true) → Sp [] G [RdL ir' p.st, OwnL 36 w (p.l.map UpdM.av), RowL i9 (p.x.av w), RowL i1 (RcM.zero.av .nilSlice)] G' → J125 (.bool true) G' := by
      intro G' hb s
      simp only [if_neg hb] at hQ
      simp -zeta only [J125, brB_true]
      refine wv_of build_rc0 ?_
      refine Rc.st (i := 3) s rfl RcM.zero_ok Leaf.nil RcM.zero_ok Leaf.nil fun G115 s115 => ?_
      refine wv_of (Rc.ld (RowL.own (i := 3) s115 rfl) RcM.zero_ok Leaf.nil) ?_
      exact hQ .nilSlice _ (((((s115.erase 0).erase 0).erase 0).erase 0).nilL 36)
    have good : ∀ G', (p.ok = true ∧ p.st.2 = 0 ∧ validR p.x p.l = true) → Sp [] G [RdL ir' p.st, OwnL 36 w (p.l.map UpdM.av), RowL i9 (p.x.av w), RowL i1 (RcM.zero.av .nilSlice)] G' → J125 (.bool false) G' := by
      intro G' hb s
      simp only [if_pos hb] at hQ
      simp -zeta only [J125, brB_false]
      refine wv_of (Rc.ld (RowL.own (i := 2) s rfl) hx lw) ?_
      refine wv_of (v := .int .i64 (b.length : Nat)) rfl ?_
      refine cursor_Reader_Rest.use (RdL.rd (i := 0) s rfl) ?_
      refine ⟨⟨Rc.ld (RowL.own (i := 2) s rfl) hx lw, trivial⟩, ?_⟩
      refine wv_of (v := .int .i64 (p.st.1.length : Nat)) rfl ?_
      rw [vbin_sub, i64_in (by omega) (by omega), wv_some]
      refine Rc.st (i := 3) s rfl RcM.zero_ok Leaf.nil hx lw fun G123 s123 => ?_
      refine wv_of (Rc.ld (RowL.own (i := 3) s123 rfl) hx lw) ?_
      have := hQ w _ (((s123.erase 0).erase 1).erase 1)
      rw [show ((b.length : Nat) : Int) - ((p.st.1.length : Nat) : Int) = ((b.length - p.st.1.length : Nat) : Int) by omega]
      exact this
    rw [vun_not, wv_some]
    cases hok : p.ok with
    | false =>
      rw [Bool.not_false, brB_true]
      exact bad _ (by rw [hok]; simp) s
    | true =>
      rw [Bool.not_true, brB_false]
      refine cursor_Reader_Err.use (RdL.rd (i := 0) s rfl) ?_
      rw [vbin_neq, wv_some, brB_ndec]
      refine ⟨fun h => bad _ (by rintro ⟨_, h2, _⟩; exact h h2) s, fun h => ?_⟩
      refine wv_of (Rc.ld (RowL.own (i := 2) s rfl) hx lw) ?_
      refine record_changed.use hx lw (OwnL.own (i := 1) s rfl).is hl hll fun G110 c110 => ?_
      have s110 := s.tmp c110
      cases hv : validR p.x p.l with
      | false =>
        refine wv_of nil_nil ?_
        exact bad _ (by rw [hv]; simp) s110
      | true =>
        refine wv_of (nil_chg (kind_of (valR_spec hv).1)) ?_
        exact good _ ⟨hok, h, hv⟩ s110
  have s11 : Sp [] G [RdL ir S, OwnL 36 .nilSlice (([] : List UpdM).map UpdM.av), RowL i9 ((rk (k : Nat)).av .nilSlice), RowL i1 (RcM.zero.av .nilSlice)] G11 := sp_swap ((sp_swap s11).nilL 36)
  clear s6
  have hnl : ∀ u ∈ ([] : List UpdM), u.ok := fun u hu => by cases hu
  have hn0 : ([] : List UpdM).length ≤ 140737488351232 := by simp
  rw [vbin_eql, wv_some, brB_dec]
  refine ⟨fun h => ?_, fun h1 => ?_⟩
  · have hk : k = 1 := by have h : ((k : Nat) : Int) = 1 := h; omega
    subst hk
    rw [if_pos rfl] at hQ
    refine cursor_Reader_Rest.use (RdL.rd (i := 0) s11 rfl) ?_
    refine record_updates.use (n := 1) (by omega) (by omega) (fun hno G' c' => ?_) (fun l t w G' hl t' => ?_)
    · rw [show par1 S = ⟨rk 1, [], S, false⟩ by unfold par1; rw [hno]] at hQ
      refine wv_of (u_loc0).1 ?_
      refine wv_of (u_loc0).2.1 ?_
      refine wv_of (u_loc0).2.2 ?_
      rw [brB_false]
      exact fin ⟨rk 1, [], S, false⟩ _ ir .nilSlice G' rfl hz hnl hn0 hsl hQ (s11.tmp c')
    · obtain ⟨hlt, hll⟩ := readL_le 1 hl
      have hlo := readL_ok 1 (by omega) hl
      obtain ⟨u, rfl⟩ : ∃ u, l = [u] := by
        match l, hll with
        | [u], _ => exact ⟨u, rfl⟩
      rw [show par1 S = ⟨{ rk 1 with upd := u }, [], (t, 0), true⟩ by unfold par1; rw [hl]] at hQ
      have huo := hlo u (by simp)
      refine wv_of (u_loc0).1 ?_
      refine wv_of (u_loc0).2.1 ?_
      refine wv_of (u_loc0).2.2 ?_
      rw [brB_true]
      obtain ⟨F17, o17, c17⟩ := t'.out
      have s17 := s11.new o17 c17
      obtain ⟨a, a1, a2⟩ := upd_at (l := [u]) (j := 0) (OwnL.own (i := 0) s17 rfl).is rfl
      refine wv_of a1 ?_
      refine wv_of a2 ?_
      refine cursor_Open.use fun ir' G24 r24 c24 => ?_
      have s24 := s17.new (p := RdL ir' (t, 0)) ⟨r24, rfl⟩ c24
      have a2' : vload T G24 t_api_Update a = some u.av := by
        obtain ⟨a', a1', a2'⟩ := upd_at (l := [u]) (j := 0) (OwnL.own (i := 1) s24 rfl).is rfl
        rw [a1] at a1'
        injection a1' with e
        subst e
        exact a2'
      refine ⟨⟨a2', trivial⟩, ?_⟩
      refine Rc.st_upd (i := 4) s24 rfl hz Leaf.nil huo fun G25 s25 => ?_
      have s25 := ((s25.erase 1).erase 1)
      have hx : ({ rk 1 with upd := u } : RcM).ok := ⟨i64_n 1 (by decide) (by decide), huo, i64_0, i64_0, i64_0, rfl, rfl, rfl, i64_0⟩
      exact fin ⟨{ rk 1 with upd := u }, [], (t, 0), true⟩ _ ir' .nilSlice G25 rfl hx hnl hn0 (by show t.length ≤ _; omega) hQ s25
  rw [if_neg (show ¬ k = 1 from fun e => h1 (by rw [e]; rfl))] at hQ
  rw [vbin_eql, wv_some, brB_dec]
  refine ⟨fun h => ?_, fun h2 => ?_⟩
  · have hk : k = 2 := by have h : ((k : Nat) : Int) = 2 := h; omega
    subst hk
    rw [if_pos rfl] at hQ
    have l1 := takes_le S 8
    have l2 := takes_le (takes S 8).2 2
    have l3 := takes_le (takes (takes S 8).2 2).2 2
    have n1 := n2_lt (takes S 8).2
    have n2 := n2_lt (takes (takes S 8).2 2).2
    refine rd (i := 0) s11 rfl (fun h k => cursor_Reader_I64.use h k) fun G30 s30 => ?_
    refine Rc.st_index (i := 2) s30 rfl hz Leaf.nil _ fun G31 s31 => ?_
    refine rd (i := 0) s31 rfl (fun h k => cursor_Reader_U16.use h k) fun G33 s33 => ?_
    rw [vconv_int T_uint16 T_int rfl, i64_in (by omega) (by omega), wv_some]
    have hz1 : ({ rk 2 with index := iOf (takes S 8).1 } : RcM).ok := ⟨hz.kind, UpdM.zero_ok, iOf_ok _, i64_0, i64_0, rfl, rfl, rfl, i64_0⟩
    refine Rc.st_cntA (s := { rk 2 with index := iOf (takes S 8).1 }) (i := 2) s33 rfl hz1 Leaf.nil _ fun G35 s35 => ?_
    refine rd (i := 0) s35 rfl (fun h k => cursor_Reader_U16.use h k) fun G37 s37 => ?_
    rw [vconv_int T_uint16 T_int rfl, i64_in (by omega) (by omega), wv_some]
    have hz2 : ({ rk 2 with index := iOf (takes S 8).1, cntA := (num (takes (takes S 8).2 2).1 : Nat) } : RcM).ok := ⟨hz.kind, UpdM.zero_ok, iOf_ok _, n2_i64 _, i64_0, rfl, rfl, rfl, i64_0⟩
    refine Rc.st_cntB (s := { rk 2 with index := iOf (takes S 8).1, cntA := (num (takes (takes S 8).2 2).1 : Nat) }) (i := 2) s37 rfl hz2 Leaf.nil _ fun G39 s39 => ?_
    have hz3 : (par2 S).x.ok := ⟨hz.kind, UpdM.zero_ok, iOf_ok _, n2_i64 _, n2_i64 _, rfl, rfl, rfl, i64_0⟩
    exact fin (par2 S) _ ir .nilSlice G39 rfl hz3 hnl hn0 (by show (takes (takes (takes S 8).2 2).2 2).2.1.length ≤ _; omega) hQ s39
  rw [if_neg (show ¬ k = 2 from fun e => h2 (by rw [e]; rfl))] at hQ
  rw [vbin_eql, wv_some, brB_dec]
  refine ⟨fun h => ?_, fun h3 => ?_⟩
  · have hk : k = 3 := by have h : ((k : Nat) : Int) = 3 := h; omega
    subst hk
    rw [if_pos rfl] at hQ
    have l1 := takes_le S 8
    have l2 := takes_le (takes S 8).2 2
    have n1 := n2_lt (takes S 8).2
    refine rd (i := 0) s11 rfl (fun h k => cursor_Reader_I64.use h k) fun G42 s42 => ?_
    refine Rc.st_index (i := 2) s42 rfl hz Leaf.nil _ fun G43 s43 => ?_
    refine rd (i := 0) s43 rfl (fun h k => cursor_Reader_U16.use h k) fun G45 s45 => ?_
    rw [vconv_int T_uint16 T_int rfl, i64_in (by omega) (by omega), wv_some]
    have hz1 : ({ rk 3 with index := iOf (takes S 8).1 } : RcM).ok := ⟨hz.kind, UpdM.zero_ok, iOf_ok _, i64_0, i64_0, rfl, rfl, rfl, i64_0⟩
    obtain ⟨C, hC⟩ : ∃ C, C = takes (takes S 8).2 2 := ⟨_, rfl⟩
    rw [← hC] at l2 n1 s45 ⊢
    have s45 : Sp [] G [RdL ir C.2, OwnL 36 .nilSlice (([] : List UpdM).map UpdM.av), RowL i9 (({ rk 3 with index := iOf (takes S 8).1 } : RcM).av .nilSlice), RowL i1 (RcM.zero.av .nilSlice)] G45 := s45
    intro J69
    have bad : ¬ (C.2.2 = 0 ∧ num C.1 ≤ 512) → J69 (.bool false) G45 := by
      intro hb
      rw [show par3 S = ⟨{ rk 3 with index := iOf (takes S 8).1 }, [], C.2, false⟩ by unfold par3; dsimp only; rw [← hC, if_neg hb]] at hQ
      simp -zeta only [J69, brB_false]
      exact fin ⟨{ rk 3 with index := iOf (takes S 8).1 }, [], C.2, false⟩ _ ir .nilSlice G45 rfl hz1 hnl hn0 (by show C.2.1.length ≤ _; omega) hQ s45
    have good : (C.2.2 = 0 ∧ num C.1 ≤ 512) → J69 (.bool true) G45 := by
      intro hb
      simp -zeta only [J69, brB_true]
      refine cursor_Reader_Rest.use (RdL.rd (i := 0) s45 rfl) ?_
      refine record_updates.use (by omega) (by omega) (fun hno G' c' => ?_) (fun l t w G' hl t' => ?_)
      · rw [show par3 S = ⟨{ rk 3 with index := iOf (takes S 8).1 }, [], C.2, false⟩ by unfold par3; dsimp only; rw [← hC, if_pos hb, hno]] at hQ
        refine wv_of (u_loc0).1 ?_
        refine wv_of (u_loc0).2.1 ?_
        refine wv_of (u_loc0).2.2 ?_
        refine Rc.st_upds (i := 2) (s45.tmp c') rfl hz1 Leaf.nil Leaf.nil fun G60 s60 => ?_
        refine cursor_Open.use fun ir' G62 r62 c62 => ?_
        have s62 := s60.new (p := RdL ir' ([], 0)) ⟨r62, rfl⟩ c62
        refine rd (i := 0) s62 rfl (fun h k => cursor_Reader_Hash.use h k) fun G64 s64 => ?_
        refine Rc.st_sig (s := { rk 3 with index := iOf (takes S 8).1 }) (i := 3) s64 rfl hz1 Leaf.nil (fill_tk _) fun G65 s65 => ?_
        have s65 := s65.erase 1
        have hz2 : ({ rk 3 with index := iOf (takes S 8).1, sig := fill 32 (takes ([], 0) 32).1 } : RcM).ok := ⟨hz.kind, UpdM.zero_ok, iOf_ok _, i64_0, i64_0, fill_tk _, rfl, rfl, i64_0⟩
        refine fin ⟨{ rk 3 with index := iOf (takes S 8).1, sig := fill 32 (takes ([], 0) 32).1 }, [], (takes ([], 0) 32).2, false⟩ _ ir' .nilSlice G65 rfl hz2 hnl hn0 (by have := takes_le ([], 0) 32; show (takes ([], 0) 32).2.1.length ≤ _; simp only [List.length_nil] at this; omega) ?_ s65
        simp only [Bool.false_eq_true, false_and, if_false] at hQ ⊢
        exact hQ
      · obtain ⟨hlt, hll⟩ := readL_le _ hl
        have hlo := readL_ok _ (by omega) hl
        rw [show par3 S = ⟨{ rk 3 with index := iOf (takes S 8).1, sig := fill 32 (takes (t, 0) 32).1 }, l, (takes (t, 0) 32).2, true⟩ by unfold par3; dsimp only; rw [← hC, if_pos hb, hl]] at hQ
        refine wv_of (u_loc0).1 ?_
        refine wv_of (u_loc0).2.1 ?_
        refine wv_of (u_loc0).2.2 ?_
        obtain ⟨F17, o17, c17⟩ := t'.out
        have s17 := s45.new o17 c17
        have lw := (OwnL.own (i := 0) s17 rfl).leaf
        refine Rc.st_upds (i := 3) s17 rfl hz1 Leaf.nil lw fun G60 s60 => ?_
        refine cursor_Open.use fun ir' G62 r62 c62 => ?_
        have s62 := s60.new (p := RdL ir' (t, 0)) ⟨r62, rfl⟩ c62
        refine rd (i := 0) s62 rfl (fun h k => cursor_Reader_Hash.use h k) fun G64 s64 => ?_
        refine Rc.st_sig (s := { rk 3 with index := iOf (takes S 8).1 }) (i := 4) s64 rfl hz1 lw (fill_tk _) fun G65 s65 => ?_
        have s65 := (s65.erase 2).erase 2
        have hz2 : ({ rk 3 with index := iOf (takes S 8).1, sig := fill 32 (takes (t, 0) 32).1 } : RcM).ok := ⟨hz.kind, UpdM.zero_ok, iOf_ok _, i64_0, i64_0, fill_tk _, rfl, rfl, i64_0⟩
        have lt := takes_le (t, 0) 32
        exact fin ⟨{ rk 3 with index := iOf (takes S 8).1, sig := fill 32 (takes (t, 0) 32).1 }, l, (takes (t, 0) 32).2, true⟩ _ ir' w G65 rfl hz2 hlo (by show l.length ≤ _; omega) (by show (takes (t, 0) 32).2.1.length ≤ _; simp only at lt; omega) hQ s65
    refine cursor_Reader_Err.use (RdL.rd (i := 0) s45 rfl) ?_
    rw [vbin_eql, wv_some, brB_dec]
    refine ⟨fun h4 => ?_, fun h4 => bad fun h => h4 h.1⟩
    rw [vbin_leq, wv_some]
    by_cases h5 : num C.1 ≤ 512
    · rw [decide_eq_true (by omega)]; exact good ⟨h4, h5⟩
    · rw [decide_eq_false (by omega)]; exact bad fun h => h5 h.2
  rw [if_neg (show ¬ k = 3 from fun e => h3 (by rw [e]; rfl))] at hQ
  rw [vbin_eql, wv_some, brB_dec]
  refine ⟨fun h => ?_, fun h4 => ?_⟩
  · have hk : k = 4 := by have h : ((k : Nat) : Int) = 4 := h; omega
    subst hk
    rw [if_pos rfl] at hQ
    have l1 := takes_le S 8
    have l2 := takes_le (takes S 8).2 32
    have l3 := takes_le (takes (takes S 8).2 32).2 32
    refine rd (i := 0) s11 rfl (fun h k => cursor_Reader_I64.use h k) fun G72 s72 => ?_
    refine Rc.st_index (i := 2) s72 rfl hz Leaf.nil _ fun G73 s73 => ?_
    refine rd (i := 0) s73 rfl (fun h k => cursor_Reader_Hash.use h k) fun G75 s75 => ?_
    have hz1 : ({ rk 4 with index := iOf (takes S 8).1 } : RcM).ok := ⟨hz.kind, UpdM.zero_ok, iOf_ok _, i64_0, i64_0, rfl, rfl, rfl, i64_0⟩
    refine Rc.st_secret (s := { rk 4 with index := iOf (takes S 8).1 }) (i := 2) s75 rfl hz1 Leaf.nil (fill_tk _) fun G76 s76 => ?_
    refine rd (i := 0) s76 rfl (fun h k => cursor_Reader_Hash.use h k) fun G78 s78 => ?_
    have hz2 : ({ rk 4 with index := iOf (takes S 8).1, secret := fill 32 (takes (takes S 8).2 32).1 } : RcM).ok := ⟨hz.kind, UpdM.zero_ok, iOf_ok _, i64_0, i64_0, rfl, fill_tk _, rfl, i64_0⟩
    refine Rc.st_point (s := { rk 4 with index := iOf (takes S 8).1, secret := fill 32 (takes (takes S 8).2 32).1 }) (i := 2) s78 rfl hz2 Leaf.nil (fill_tk _) fun G79 s79 => ?_
    have hz3 : (par4 S).x.ok := ⟨hz.kind, UpdM.zero_ok, iOf_ok _, i64_0, i64_0, rfl, fill_tk _, fill_tk _, i64_0⟩
    exact fin (par4 S) _ ir .nilSlice G79 rfl hz3 hnl hn0 (by show (takes (takes (takes S 8).2 32).2 32).2.1.length ≤ _; omega) hQ s79
  rw [if_neg (show ¬ k = 4 from fun e => h4 (by rw [e]; rfl))] at hQ
  rw [vbin_eql, wv_some, brB_dec]
  refine ⟨fun h => ?_, fun h5 => ?_⟩
  · have hk : k = 5 := by have h : ((k : Nat) : Int) = 5 := h; omega
    subst hk
    rw [if_pos rfl] at hQ
    have l1 := takes_le S 2
    have n1 := n2_lt S
    refine rd (i := 0) s11 rfl (fun h k => cursor_Reader_U16.use h k) fun G82 s82 => ?_
    rw [vconv_int T_uint16 T_int rfl, i64_in (by omega) (by omega), wv_some]
    refine Rc.st_code (i := 2) s82 rfl hz Leaf.nil _ fun G84 s84 => ?_
    have hz1 : (par5 S).x.ok := ⟨hz.kind, UpdM.zero_ok, i64_0, i64_0, i64_0, rfl, rfl, rfl, n2_i64 _⟩
    exact fin (par5 S) _ ir .nilSlice G84 rfl hz1 hnl hn0 (by show (takes S 2).2.1.length ≤ _; omega) hQ s84
  rw [if_neg (show ¬ k = 5 from fun e => h5 (by rw [e]; rfl))] at hQ
  rw [vbin_eql, wv_some, brB_dec]
  refine ⟨fun h => ?_, fun h6 => ?_⟩
  · have hk : k = 6 := by have h : ((k : Nat) : Int) = 6 := h; omega
    subst hk
    rw [if_pos rfl] at hQ
    have l1 := takes_le S 8
    refine rd (i := 0) s11 rfl (fun h k => cursor_Reader_I64.use h k) fun G87 s87 => ?_
    refine Rc.st_index (i := 2) s87 rfl hz Leaf.nil _ fun G88 s88 => ?_
    have hz1 : (par6 S).x.ok := ⟨hz.kind, UpdM.zero_ok, iOf_ok _, i64_0, i64_0, rfl, rfl, rfl, i64_0⟩
    exact fin (par6 S) _ ir .nilSlice G88 rfl hz1 hnl hn0 (by show (takes S 8).2.1.length ≤ _; omega) hQ s88
  rw [if_neg (show ¬ k = 6 from fun e => h6 (by rw [e]; rfl))] at hQ
  exact fin ⟨rk (k : Nat), [], S, true⟩ _ ir .nilSlice G11 rfl hz hnl hn0 hsl hQ s11

end
end Go.Esc.M

/- Own work. Chapter 17: Read, in the document. -/
set_option linter.unusedSimpArgs false
set_option linter.unusedVariables false
set_option maxRecDepth 20000
namespace Go.Esc.M
open Go Go.Esc

end Go.Esc.M

/- Own work. Chapter 17: Read, in the document: the walk. -/
set_option linter.unusedSimpArgs false
set_option linter.unusedVariables false
set_option maxRecDepth 20000
namespace Go.Esc.M
open Go Go.Esc

section
variable {F0 : List AId} {G0 G : Heap} {ps : List LP} {Q : AVal → Heap → Prop}

theorem RdRL.rd {id : AId} {st : List UInt8 × Int} {i : Nat} (h : Sp F0 G0 ps G) (hi : ps[i]? = some (RdRL id st)) : RdR id st G := by
  obtain ⟨F, h, _⟩ := h.get hi
  exact h
end
end Go.Esc.M
