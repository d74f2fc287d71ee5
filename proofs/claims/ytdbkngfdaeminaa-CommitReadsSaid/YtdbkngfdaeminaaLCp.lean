/- Own work. Chapter 14: a commitment's bytes, in the program. -/
import Derived.Test.YtdbkngfdaeminaaLCo
set_option linter.unusedSimpArgs false
set_option linter.unusedVariables false
set_option maxRecDepth 20000
namespace Go.Esc.M
open Go Go.Esc

def PenM.bytes (p : PenM) : List UInt8 := be 1 (bif p.ours then 1 else 0) ++ (be 8 (bits64 p.id) ++ (be 8 (bits64 p.amount) ++ p.hash))
theorem PenM.length_bytes {p : PenM} (h : p.ok) : p.bytes.length = 49 := by simp [PenM.bytes, length_be, h.hash]

def textB (owner index : Int) (point : List UInt8) (o q : Int) (l : List PenM) : List UInt8 :=
  be 1 owner.toNat ++ (be 8 (bits64 index) ++ (point ++ (be 8 (bits64 o) ++ (be 8 (bits64 q) ++ (be 2 l.length ++ l.flatMap PenM.bytes)))))
def maxIndex : Int := 281474976710655
def argBad (owner index : Int) : Prop := owner < 0 ∨ 1 < owner ∨ index < 0 ∨ maxIndex < index
instance (owner index : Int) : Decidable (argBad owner index) := inferInstanceAs (Decidable (_ ∨ _ ∨ _ ∨ _))
def textR (owner index : Int) (point : List UInt8) (o q : Int) (l : List PenM) : List UInt8 × Int :=
  if argBad owner index then ([], 1) else bif soundP o q l then (textB owner index point o q l, 0) else ([], 4)

theorem scanP_count : ∀ (l : List PenM) {lt lf : Int} {ct cf a b : Nat}, scanP lt lf ct cf l = some (a, b) → a + b = ct + cf + l.length
  | [], lt, lf, ct, cf, a, b, h => by
    simp only [scanP, Option.some.injEq, Prod.mk.injEq] at h
    simp; omega
  | p :: l, lt, lf, ct, cf, a, b, h => by
    rw [scanP] at h
    split at h
    · cases h
    · cases hp : p.ours with
      | true =>
        rw [hp] at h
        have := scanP_count l h
        simp; omega
      | false =>
        rw [hp] at h
        have := scanP_count l h
        simp; omega

theorem soundP_length {o q : Int} {l : List PenM} (h : soundP o q l = true) : l.length ≤ 966 := by
  unfold soundP at h
  simp only [Bool.and_eq_true] at h
  have h := h.2
  unfold few at h
  split at h
  · cases h
  · rename_i a b he
    have := scanP_count l he
    simp only [Bool.and_eq_true, decide_eq_true_eq] at h
    omega

section
variable {F0 : List AId} {G0 G : Heap} {ps : List LP} {Q : AVal → Heap → Prop}

/-- A value laid by a writer that is not broken. -/
theorem wr {id : AId} {bs xs : List UInt8} {n : FuncId} {args : List AVal} {i : Nat} {K : AVal → Heap → Prop} (hs : Sp F0 G0 ps G) (hi : ps[i]? = some (WrL id bs 0))
    (huse : ∀ {G : Heap} {F : List AId} {Q : AVal → Heap → Prop}, Wr id (bs, 0) G F → (∀ F' G', Wr id (laid (bs, 0) xs) G' F' → Ch F G F' G' → Q (.tuple []) G') → ACalls P n args G Q)
    (hK : ∀ G', Sp F0 G0 (ps.set i (WrL id (bs ++ xs) 0)) G' → K (.tuple []) G') : ACalls P n args G K := by
  refine hs.call hi (WrL id (bs ++ xs) 0) fun F h k => ?_
  exact huse h fun F' G' w c => hK _ (k F' G' w c)

theorem u8_conv (n : Int) (h0 : 0 ≤ n) (h1 : n ≤ 255) : vconv T G t_int t_uint8 (.int .i64 n) = some (.int .u8 (n.toNat : Nat)) := by
  rw [vconv_int T_int T_uint8 rfl, u8_in h0 h1]
  congr 2
  omega

set_option maxHeartbeats 1000000 in
theorem commit_Text.use {owner index o q : Int} {point : List UInt8} {v : AVal} {l : List PenM} (hp : point.length = 32) (hl : IsSl 35 G v (l.map PenM.av)) (hok : ∀ p ∈ l, p.ok) (hlen : l.length ≤ 9223372036854775807)
    (hQ : ∀ G', Ch [] G [] G' → Q (.tuple [.str (textR owner index point o q l).1, .int .i64 (textR owner index point o q l).2]) G') :
    ACalls P commit_Text.n [.int .i64 owner, .int .i64 index, .agg (point.map u8v), ledV o q v] G Q := by
  obtain ⟨hv1, hv2, _⟩ := sl_leaf hl
  refine commit_Text.sound ?_
  unfold commit_Text.S
  obtain ⟨mI, hmI⟩ : ∃ m, m = (281474976710655 : Int) := ⟨_, rfl⟩
  rw [← hmI]
  have hmax : maxIndex = mI := by rw [hmI]; rfl
  intro i1 f1
  have s1 := (Sp.nil G).row f1 (.agg (point.map u8v))
  intro i3 f3
  have s3 := s1.row f3 (ledV o q v)
  revert s3
  generalize Heap.upd _ i3 (.own (ledV o q v)) = G4
  intro s3 J71
  have hbad : argBad owner index → J71 (.bool true) G4 := by
    intro h
    simp -zeta only [J71, brB_true]
    have := hQ _ s3.ch
    rw [textR, if_pos h] at this
    exact this
  have hgood : ¬ argBad owner index → J71 (.bool false) G4 := by
    intro h
    rw [textR, if_neg h] at hQ
    have ho : owner = 0 ∨ owner = 1 := by
      unfold argBad at h
      omega
    simp -zeta only [J71, brB_false]
    refine wv_of (led_fld hv1 hv2 (RowL.own (i := 0) s3 rfl)).2.2.2 ?_
    refine commit_sound.use (hl.ch' s3.ch) hok hlen fun G13 c13 => ?_
    have s13 := s3.tmp c13
    rw [vun_not, wv_some]
    cases hsd : soundP o q l with
    | false =>
      rw [Bool.not_false, brB_true]
      have := hQ _ s13.ch
      rw [hsd] at this
      exact this
    | true =>
      rw [Bool.not_true, brB_false]
      have hl966 := soundP_length hsd
      simp only [hsd, cond_true] at hQ
      refine cursor_New.use fun iw G16 w16 c16 => ?_
      have s16 := s13.new (p := WrL iw [] 0) w16 c16
      refine wv_of (u8_conv owner (by omega) (by omega)) ?_
      refine wr (i := 0) s16 rfl (fun h k => cursor_Writer_U8.use (by omega) h (by simp) k) fun G19 s19 => ?_
      refine wr (i := 0) s19 rfl (fun h k => cursor_Writer_I64.use h (by simp [length_be]) k) fun G21 s21 => ?_
      refine wv_of (load_hash hp (RowL.own (i := 2) s21 rfl)) ?_
      refine wr (i := 0) s21 rfl (fun h k => cursor_Writer_Hash.use hp h (by simp [length_be]) k) fun G24 s24 => ?_
      refine wv_of (led_fld hv1 hv2 (RowL.own (i := 1) s24 rfl)).1 ?_
      refine wr (i := 0) s24 rfl (fun h k => cursor_Writer_I64.use h (by simp [length_be, hp]) k) fun G27 s27 => ?_
      refine wv_of (led_fld hv1 hv2 (RowL.own (i := 1) s27 rfl)).2.1 ?_
      refine wr (i := 0) s27 rfl (fun h k => cursor_Writer_I64.use h (by simp [length_be, hp]) k) fun G30 s30 => ?_
      refine wv_of (led_fld hv1 hv2 (RowL.own (i := 1) s30 rfl)).2.2.1 ?_
      have hlen' : ∀ G', Ch [] G [] G' → vlen T G' t_sl_api_Pending v = some (.int .i64 (l.length : Nat)) := fun G' c => by
        rw [(hl.ch' c).len (i := ti_sl_api_Pending) T_sl_api_Pending rfl, List.length_map]
      refine wv_of (hlen' _ s30.ch) ?_
      rw [vconv_int T_int T_uint16 rfl, wv_some, u16_in (by omega) (by omega)]
      refine wr (i := 0) s30 rfl (fun h k => cursor_Writer_U16.use (by omega) h (by simp [length_be, hp]) k) fun G35 s35 => ?_
      refine wv_of (led_fld hv1 hv2 (RowL.own (i := 1) s35 rfl)).2.2.1 ?_
      refine wv_of (hlen' _ s35.ch) ?_
      intro R38 hR38
      obtain ⟨H, hH, hHl⟩ : ∃ H : List UInt8, [] ++ be 1 owner.toNat ++ be 8 (bits64 index) ++ point ++ be 8 (bits64 o) ++ be 8 (bits64 q) ++ be 2 l.length = H ∧ H.length = 59 := ⟨_, rfl, by simp [length_be, hp]⟩
      have htb : textB owner index point o q l = H ++ l.flatMap PenM.bytes := by rw [← hH]; simp [textB]
      rw [hH] at s35
      have hfm : ∀ j, ((l.take j).flatMap PenM.bytes).length ≤ 49 * l.length := by
        intro j
        have : ∀ m : List PenM, (∀ p ∈ m, p.ok) → (m.flatMap PenM.bytes).length = 49 * m.length := by
          intro m hm
          induction m with
          | nil => rfl
          | cons p m ih =>
            rw [List.flatMap_cons, List.length_append, PenM.length_bytes (hm p (by simp)), ih (fun p hp => hm p (by simp [hp])), List.length_cons]
            omega
        rw [this _ (fun p hp => hok p (List.mem_of_mem_take hp)), List.length_take]
        omega
      have loop : ∀ (n j : Nat) (G' : Heap), l.length - j = n → j ≤ l.length → Sp [] G [WrL iw (H ++ (l.take j).flatMap PenM.bytes) 0, RowL i3 (ledV o q v), RowL i1 (.agg (point.map u8v))] G' →
          R38 [.ptr iw [] 0, v, .int .i64 (l.length : Nat), .int .i64 (j : Int)] G' := by
        intro n
        induction n with
        | zero =>
          intro j G' hn hj hs
          have : j = l.length := by omega
          subst this
          rw [List.take_of_length_le (Nat.le_refl _), ← htb] at hs
          refine hR38 _ _ _ _ _ ?_
          rw [vbin_lss, wv_some, brB_dec]
          refine ⟨fun h => absurd h (by omega), fun _ => ?_⟩
          obtain ⟨F, hw⟩ := hs.get (i := 0) rfl
          refine cursor_Writer_Out.use (st := (textB owner index point o q l, 0)) hw ?_
          rw [vext0, wv_some, vext1, wv_some, if_pos rfl]
          exact hQ _ hs.ch
        | succ n ih =>
          intro j G' hn hj hs
          obtain ⟨p, hp'⟩ : ∃ p, l[j]? = some p := ⟨_, List.getElem?_eq_getElem (by omega)⟩
          have hpo := hok p (List.mem_of_getElem? hp')
          obtain ⟨a, ha, hla⟩ := pen_at (hl.ch' hs.ch) hp'
          have hfj := hfm j
          refine hR38 _ _ _ _ _ ?_
          rw [vbin_lss, wv_some, brB_dec]
          refine ⟨fun _ => ?_, fun h => absurd (by omega) h⟩
          rw [ha, wv_some, hla, wv_some]
          refine newVal hs T_api_Pending (PenM.fits hpo) (by rw [PenM.sz hpo]; rfl) (PenM.okv p) fun i47 G49 s49 => ?_
          refine wv_of (PenM.fld hpo (RowL.own (i := 0) s49 rfl)).1 ?_
          intro J65
          have h65 : ∀ (G55 : Heap) (x : Nat), x = (bif p.ours then 1 else 0) → Sp [] G [RowL i47 p.av, WrL iw (H ++ (l.take j).flatMap PenM.bytes ++ be 1 x) 0, RowL i3 (ledV o q v), RowL i1 (.agg (point.map u8v))] G55 → J65 G55 := by
            intro G55 x hx s55
            simp -zeta only [J65]
            refine wv_of (PenM.fld hpo (RowL.own (i := 0) s55 rfl)).2.1 ?_
            refine wr (i := 1) s55 rfl (fun h k => cursor_Writer_I64.use h (by simp only [List.length_append, length_be]; omega) k) fun G58 s58 => ?_
            refine wv_of (PenM.fld hpo (RowL.own (i := 0) s58 rfl)).2.2.1 ?_
            refine wr (i := 1) s58 rfl (fun h k => cursor_Writer_I64.use h (by simp only [List.length_append, length_be]; omega) k) fun G61 s61 => ?_
            refine wv_of (PenM.fld hpo (RowL.own (i := 0) s61 rfl)).2.2.2 ?_
            refine wr (i := 1) s61 rfl (fun h k => cursor_Writer_Hash.use hpo.hash h (by simp only [List.length_append, length_be]; omega) k) fun G64 s64 => ?_
            rw [vbin_add, wv_some, i64_in (by omega) (by omega)]
            refine ih (j + 1) G64 (by omega) (by omega) ?_
            have e : H ++ (l.take (j + 1)).flatMap PenM.bytes = H ++ (l.take j).flatMap PenM.bytes ++ be 1 x ++ be 8 (bits64 p.id) ++ be 8 (bits64 p.amount) ++ p.hash := by
              rw [List.take_add_one, hp', hx]
              simp [PenM.bytes]
            rw [e]
            exact s64.erase 0
          rw [brB_bool]
          refine ⟨fun h => ?_, fun h => ?_⟩
          · exact wr (i := 1) (xs := be 1 1) s49 rfl (fun h k => cursor_Writer_U8.use (v := 1) (by omega) h (by simp only [List.length_append, length_be]; omega) k) fun G52 s52 => h65 G52 1 (by rw [h]; rfl) s52
          · exact wr (i := 1) (xs := be 1 0) s49 rfl (fun h k => cursor_Writer_U8.use (v := 0) (by omega) h (by simp only [List.length_append, length_be]; omega) k) fun G52 s52 => h65 G52 0 (by rw [h]; rfl) s52
      exact loop _ 0 G35 rfl (by omega) (by simpa using s35)
  rw [vbin_lss, wv_some, brB_dec]
  refine ⟨fun h => hbad (.inl h), fun h0 => ?_⟩
  rw [vbin_gtr, wv_some, brB_dec]
  refine ⟨fun h => hbad (.inr (.inl h)), fun h1 => ?_⟩
  rw [vbin_lss, wv_some, brB_dec]
  refine ⟨fun h => hbad (.inr (.inr (.inl h))), fun h2 => ?_⟩
  rw [vbin_gtr, wv_some]
  by_cases h3 : mI < index
  · rw [decide_eq_true h3]
    exact hbad (.inr (.inr (.inr (by rw [hmax]; exact h3))))
  · rw [decide_eq_false h3]
    refine hgood fun h => ?_
    rcases h with h | h | h | h
    · exact h0 h
    · exact h1 h
    · exact h2 h
    · exact h3 (by rw [← hmax]; exact h)

end
end Go.Esc.M
