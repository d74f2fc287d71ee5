import Derived.Test.YtdoelihemgopcaaLUf
import Derived.Test.YtdoelihemgopcaaLSf
import Derived.Test.YtdoelihemgopcaaLHt
import Derived.Test.YtdoelihemgopcaaLRS
import Derived.Test.YtdoelihemgopcaaLSh
/- Own work. Chapter 12: UpdateBack. -/
set_option linter.unusedSimpArgs false
set_option linter.unusedVariables false
set_option maxRecDepth 20000
namespace Go.Esc.M
open Go Go.Esc

theorem slice_app {x y z : List UInt8} {a n : Nat} (ha : x.length = a) (hn : y.length = n) : slice (x ++ (y ++ z)) a n = y := by
  rw [slice, List.drop_left' ha, List.take_left' hn]
theorem slice_add (b : List UInt8) (a n m : Nat) : slice b a (n + m) = slice b a n ++ slice b (a + n) m := by
  rw [slice, slice, slice, List.take_add, List.drop_drop]
theorem be_num {l : List UInt8} {k : Nat} (h : l.length = k) : be k (num l) = l := by
  subst h
  exact be_numA l 0
theorem length_tail {u : UpdM} (h : u.ok) (hv : validU u = true) : (bytesU u).length = 3 + (tailU u).length := by
  simp [bytesU, length_be]; omega

theorem readU_bytes {u : UpdM} (h : u.ok) (hv : validU u = true) (r : List UInt8) : readU (bytesU u ++ r) = (u, (((bytesU u).length : Nat) : Int), 0) := by
  obtain ⟨hi0, hi1, hk⟩ := valid_spec hv
  have hkr : 1 ≤ u.kind ∧ u.kind ≤ 3 := by omega
  have hok : ∀ n : Nat, okU u n = (u, (n : Int), 0) := fun n => by rw [okU, hv]; rfl
  have hb : bytesU u ++ r = be 1 u.kind.toNat ++ (be 2 u.id.toNat ++ (tailU u ++ r)) := by simp [bytesU]
  have e0 : slice (bytesU u ++ r) 0 1 = be 1 u.kind.toNat := by rw [hb]; exact slice_app (x := []) rfl (length_be _ _)
  have e1 : slice (bytesU u ++ r) 1 2 = be 2 u.id.toNat := by rw [hb]; exact slice_app (length_be _ _) (length_be _ _)
  have n0 : num (slice (bytesU u ++ r) 0 1) = u.kind.toNat := by rw [e0, num_be_lt (by omega)]
  have n1 : idU (bytesU u ++ r) = u.id := by rw [idU, e1, num_be2 (by omega)]; omega
  have hne : bytesU u ++ r ≠ [] := by rw [hb]; simp [be]
  have hlen : (bytesU u ++ r).length = 3 + (tailU u).length + r.length := by rw [List.length_append, length_tail h hv]
  have hb3 : bytesU u ++ r = (be 1 u.kind.toNat ++ be 2 u.id.toNat) ++ (tailU u ++ r) := by simp [bytesU]
  have h3 : (be 1 u.kind.toNat ++ be 2 u.id.toNat).length = 3 := by simp [length_be]
  have hbl := length_tail h hv
  unfold readU
  rw [if_neg hne, n0, n1]
  obtain ⟨kd, id, am, hs, nt⟩ := u
  have hhs : hs.length = 32 := h.hash
  dsimp only at *
  rcases hk with ⟨rfl, ha1, ha2, rfl⟩ | ⟨rfl, rfl, rfl⟩ | ⟨rfl, rfl, rfl, hnt⟩
  · have ht : tailU ⟨1, id, am, hs, []⟩ = be 8 (bits64 am) ++ hs := by simp [tailU]
    have htl : (tailU ⟨1, id, am, hs, []⟩).length = 40 := by rw [ht]; simp [length_be, hhs]
    rw [if_pos (by decide), if_neg (by omega)]
    rw [ht] at hb3
    have e8 : slice (bytesU ⟨1, id, am, hs, []⟩ ++ r) 3 8 = be 8 (bits64 am) := by
      rw [hb3, List.append_assoc]
      exact slice_app h3 (length_be _ _)
    have e32 : slice (bytesU ⟨1, id, am, hs, []⟩ ++ r) 11 32 = hs := by
      have hb5 : bytesU ⟨1, id, am, hs, []⟩ ++ r = (be 1 (Int.toNat 1) ++ be 2 id.toNat ++ be 8 (bits64 am)) ++ (hs ++ r) := by rw [hb3]; simp
      rw [hb5]
      exact slice_app (by simp [length_be]) hhs
    rw [e8, e32, wrap_be h.amount, hok, hbl, htl]
  · have ht : tailU ⟨2, id, 0, hs, []⟩ = hs := by simp [tailU]
    have htl : (tailU ⟨2, id, 0, hs, []⟩).length = 32 := by rw [ht]; exact hhs
    rw [if_neg (by decide), if_pos (by decide), if_neg (by omega)]
    rw [ht] at hb3
    have e32 : slice (bytesU ⟨2, id, 0, hs, []⟩ ++ r) 3 32 = hs := by
      rw [hb3]
      exact slice_app h3 hhs
    rw [e32, hok, hbl, htl]
  · have ht : tailU ⟨3, id, 0, h0, nt⟩ = be 2 nt.length ++ nt := by simp [tailU]
    have htl : (tailU ⟨3, id, 0, h0, nt⟩).length = 2 + nt.length := by rw [ht]; simp [length_be]
    rw [ht] at hb3
    have e2 : slice (bytesU ⟨3, id, 0, h0, nt⟩ ++ r) 3 2 = be 2 nt.length := by
      rw [hb3, List.append_assoc]
      exact slice_app h3 (length_be _ _)
    have en : slice (bytesU ⟨3, id, 0, h0, nt⟩ ++ r) 5 nt.length = nt := by
      have hb5 : bytesU ⟨3, id, 0, h0, nt⟩ ++ r = (be 1 (Int.toNat 3) ++ be 2 id.toNat ++ be 2 nt.length) ++ (nt ++ r) := by rw [hb3]; simp
      rw [hb5]
      exact slice_app (by simp [length_be]) rfl
    rw [if_neg (by decide), if_neg (by decide), if_pos (by decide), if_neg (by omega), e2, num_be2 (by omega), if_neg (by omega), if_neg (by omega), en, hok, hbl, htl, show 3 + (2 + nt.length) = 5 + nt.length by omega]

theorem readU_cases {b : List UInt8} (hb : b.length ≤ 9223372036854775807) :
    (∃ e, (e = 2 ∨ e = 120) ∧ readU b = (UpdM.zero, 0, e)) ∨ (∃ (u : UpdM) (k : Nat), readU b = (u, (k : Int), 0) ∧ u.ok ∧ validU u = true ∧ 0 < k ∧ k ≤ b.length ∧ bytesU u = b.take k) := by
  have ho := readU_ok hb
  have fin : ∀ (u : UpdM) (k : Nat), readU b = okU u k → 0 < k → k ≤ b.length → bytesU u = b.take k →
      (∃ e, (e = 2 ∨ e = 120) ∧ readU b = (UpdM.zero, 0, e)) ∨ (∃ (u : UpdM) (k : Nat), readU b = (u, (k : Int), 0) ∧ u.ok ∧ validU u = true ∧ 0 < k ∧ k ≤ b.length ∧ bytesU u = b.take k) := by
    intro u k h h1 h2 h3
    unfold okU at h
    cases hv : validU u with
    | false =>
      rw [hv] at h
      exact .inl ⟨120, .inr rfl, h⟩
    | true =>
      rw [hv] at h
      rw [h] at ho
      exact .inr ⟨u, k, h, ho, hv, h1, h2, h3⟩
  have none2 : readU b = (UpdM.zero, 0, 2) → (∃ e, (e = 2 ∨ e = 120) ∧ readU b = (UpdM.zero, 0, e)) ∨ (∃ (u : UpdM) (k : Nat), readU b = (u, (k : Int), 0) ∧ u.ok ∧ validU u = true ∧ 0 < k ∧ k ≤ b.length ∧ bytesU u = b.take k) := fun h => .inl ⟨2, .inl rfl, h⟩
  have none120 : readU b = (UpdM.zero, 0, 120) → (∃ e, (e = 2 ∨ e = 120) ∧ readU b = (UpdM.zero, 0, e)) ∨ (∃ (u : UpdM) (k : Nat), readU b = (u, (k : Int), 0) ∧ u.ok ∧ validU u = true ∧ 0 < k ∧ k ≤ b.length ∧ bytesU u = b.take k) := fun h => .inl ⟨120, .inr rfl, h⟩
  have hid : ∀ {n : Nat}, 3 ≤ b.length → be 2 (idU b).toNat = slice b 1 2 := fun {n} h => by
    rw [idU, Int.toNat_natCast, be_num (length_slice (by omega))]
  have hk1 : ∀ {n : Nat}, num (slice b 0 1) = n → 1 ≤ b.length → be 1 n = slice b 0 1 := fun h hl => by
    rw [← h, be_num (length_slice (by omega))]
  have t0 : ∀ k, b.take k = slice b 0 k := fun k => by rw [slice, List.drop_zero]
  by_cases hne : b = []
  · exact none2 (by unfold readU; rw [if_pos hne])
  have hr : readU b = readU b := rfl
  conv at hr => rhs; unfold readU
  rw [if_neg hne] at hr
  have hn2 := num2_lt (b := b) (a := 3)
  split at hr
  · rename_i h1
    split at hr
    · exact none2 hr
    · refine fin _ 43 hr (by decide) (by omega) ?_
      have hv8 := num_lt_of (l := slice b 3 8) (k := 8) (by rw [length_slice (by omega)]; exact Nat.le_refl _)
      rw [t0, show 43 = 1 + (2 + (8 + 32)) from rfl, slice_add, slice_add, slice_add]
      show be 1 (Int.toNat 1) ++ (be 2 (idU b).toNat ++ tailU _) = _
      have ht : tailU ⟨1, idU b, IntKind.i64.wrap (num (slice b 3 8) : Nat), slice b 11 32, []⟩ = be 8 (bits64 (IntKind.i64.wrap (num (slice b 3 8) : Nat))) ++ slice b 11 32 := by simp [tailU]
      rw [ht, bits64_wrap hv8, be_num (length_slice (by omega)), hid (n := 0) (by omega), show Int.toNat 1 = 1 from rfl, hk1 h1 (by omega)]
  split at hr
  · rename_i h1
    split at hr
    · exact none2 hr
    · refine fin _ 35 hr (by decide) (by omega) ?_
      rw [t0, show 35 = 1 + (2 + 32) from rfl, slice_add, slice_add]
      show be 1 (Int.toNat 2) ++ (be 2 (idU b).toNat ++ tailU _) = _
      have ht : tailU ⟨2, idU b, 0, slice b 3 32, []⟩ = slice b 3 32 := by simp [tailU]
      rw [ht, hid (n := 0) (by omega), show Int.toNat 2 = 2 from rfl, hk1 h1 (by omega)]
  split at hr
  · rename_i h1
    split at hr
    · exact none2 hr
    split at hr
    · exact none120 hr
    split at hr
    · exact none2 hr
    · refine fin _ (5 + num (slice b 3 2)) hr (by omega) (by omega) ?_
      rw [t0, show 5 + num (slice b 3 2) = 1 + (2 + (2 + num (slice b 3 2))) by omega, slice_add, slice_add, slice_add]
      show be 1 (Int.toNat 3) ++ (be 2 (idU b).toNat ++ tailU _) = _
      have hl : (slice b 5 (num (slice b 3 2))).length = num (slice b 3 2) := length_slice (by omega)
      have ht : tailU ⟨3, idU b, 0, h0, slice b 5 (num (slice b 3 2))⟩ = slice b 3 2 ++ slice b 5 (num (slice b 3 2)) := by
        simp only [tailU]
        rw [if_neg (by decide), if_neg (by decide), hl, be_num (length_slice (by omega))]
      rw [ht, hid (n := 0) (by omega), show Int.toNat 3 = 3 from rfl, hk1 h1 (by omega)]
  · exact none120 hr

end Go.Esc.M

/- Own work. Chapter 12: the document's finds; Next. -/
set_option linter.unusedSimpArgs false
set_option linter.unusedVariables false
set_option maxRecDepth 20000
namespace Go.Esc.M
open Go Go.Esc

section
variable {F0 : List AId} {G0 G : Heap} {ps : List LP} {Q : AVal → Heap → Prop}

theorem upd_fldA {v : AVal} {l : List UpdM} {j f o : Nat} {p : UpdM} {tf : TypeId} {fi : TI} {c : AVal} (h : IsSl 36 G v (l.map UpdM.av)) (hj : l[j]? = some p) (hf : [(t_int, 0), (t_int64, 1), (t_int64, 2), (t_api_Hash, 3), (t_string, 35)][f]? = some (tf, o)) (hft : T tf = some fi) (hz : fi.size ≠ 0)
    (hs : szs (p.cs.take f) = o) (hc : p.cs[f]? = some c) (hfit : vfits fi c = true) :
    ∃ a b, viaddr T t_sl_api_Update v (.int .i64 (j : Int)) = some a ∧ vfaddr T t_api_Update a f = some b ∧ vload T G tf b = some c :=
  IsSl.fld (k := .i64) (i := ti_sl_api_Update) (ie := ti_api_Update) T_sl_api_Update rfl T_api_Update rfl hf hft hz h (by rw [List.getElem?_map, hj]; rfl) hs hc hfit

/-- May an update stand behind a list? -/
def nextU (mine others : List UpdM) (u : UpdM) : Int :=
  if 2048 ≤ mine.length then 6 else if validU u = false then 120
  else if u.kind = 1 then (if u.id = (addsU mine : Nat) then 0 else 120)
  else if (firstU false u.id others).isSome = false then 120
  else if (firstU true u.id mine).isSome then 120
  else if u.kind = 2 ∧ sha u.hash ≠ ((firstU false u.id others).getD UpdM.zero).hash then 120 else 0

theorem length_sha' (s : List UInt8) : (sha s).length = 32 := length_sha s

theorem one_str {F0 : List AId} {G0 : Heap} {ps : List LP} {s : List UInt8} {K : AVal → Heap → Prop} (hs : Sp F0 G0 ps G) (hK : ∀ v G2, Sp F0 G0 (OwnL 1 v ([s].map .str) :: ps) G2 → K v G2) : aBuildSlice T t_sl_string 1 [(0, .str s)] G K :=
  buildV (T := T) (ts := t_sl_string) (e := t_string) (si := ti_sl_string) (ie := ti_string) T_sl_string rfl T_string rfl hs rfl (by decide) hK

set_option maxHeartbeats 2000000 in
theorem update_Next.use {v w : AVal} {mine others : List UpdM} {u : UpdM} (hl : IsSl 36 G v (mine.map UpdM.av)) (ho : IsSl 36 G w (others.map UpdM.av)) (hok : ∀ u ∈ mine, u.ok) (hok2 : ∀ u ∈ others, u.ok) (hlen : mine.length ≤ 9223372036854775807) (hlen2 : others.length ≤ 9223372036854775807) (hu : u.ok)
    (hQ : ∀ G', Ch [] G [] G' → Q (.int .i64 (nextU mine others u)) G') : ACalls P update_Next.n [v, w, u.av] G Q := by
  refine update_Next.sound ?_
  unfold update_Next.S
  rw [zUpd]
  intro i1 f1
  have s1 := (Sp.nil G).row f1 u.av
  refine wv_of (upd_len (hl.ch' s1.ch)) ?_
  unfold nextU at hQ
  rw [vbin_geq, wv_some, brB_dec]
  refine ⟨fun h => ?_, fun h => ?_⟩
  · rw [if_pos (by omega)] at hQ
    exact hQ _ s1.ch
  rw [if_neg (by omega)] at hQ
  refine wv_of (upd_load (i := 0) s1 rfl hu).2.2.2.2.2 ?_
  refine update_Valid.use hu fun G7 c7 => ?_
  have s7 := s1.tmp c7
  rw [vun_not, wv_some]
  cases hv : validU u with
  | false =>
    rw [if_pos hv] at hQ
    exact hQ _ s7.ch
  | true =>
    rw [if_neg (by rw [hv]; decide)] at hQ
    rw [Bool.not_true, brB_false]
    refine wv_of (upd_load (i := 0) s7 rfl hu).1 ?_
    rw [vbin_eql, wv_some, brB_dec]
    refine ⟨fun hk1 => ?_, fun hk1 => ?_⟩
    · rw [if_pos hk1] at hQ
      refine wv_of (upd_load (i := 0) s7 rfl hu).2.1 ?_
      refine update_adds.use (hl.ch' s7.ch) hok hlen fun G13 c13 => ?_
      have s13 := s7.tmp c13
      refine ⟨⟨(upd_load (i := 0) s13 rfl hu).2.1, trivial⟩, ?_⟩
      rw [vbin_neq, wv_some, brB_ndec]
      exact ⟨fun h => by rw [if_neg h] at hQ; exact hQ _ s13.ch, fun h => by rw [if_pos h] at hQ; exact hQ _ s13.ch⟩
    rw [if_neg hk1] at hQ
    refine wv_of (upd_load (i := 0) s7 rfl hu).2.1 ?_
    refine update_Find.use (ho.ch' s7.ch) hok2 hlen2 fun G17 c17 => ?_
    have s17 := s7.tmp c17
    have hf1 := firstU_ok (rm := false) (id := u.id) hok2
    have hf2 := firstU_ok (rm := true) (id := u.id) hok
    rw [opt0, wv_some, opt1, wv_some]
    obtain ⟨A, hA⟩ : ∃ A, A = firstU false u.id others := ⟨_, rfl⟩
    obtain ⟨B, hB⟩ : ∃ A, A = firstU true u.id mine := ⟨_, rfl⟩
    rw [← hA] at hf1 hQ ⊢
    rw [← hB] at hf2 hQ
    intro i20 f20
    have s20 := s17.row f20 UpdM.zero.av
    refine upd_store (i := 0) s20 rfl UpdM.zero_ok hf1 fun G22 s22 => ?_
    refine wv_of (upd_load (i := 1) s22 rfl hu).2.1 ?_
    refine update_Removal.use (hl.ch' s22.ch) hok hlen fun G25 c25 => ?_
    have s25 := s22.tmp c25
    rw [← hB, opt0, wv_some, opt1, wv_some]
    intro i28 f28
    have s28 := s25.row f28 UpdM.zero.av
    refine upd_store (i := 0) s28 rfl UpdM.zero_ok hf2 fun G30 s30 => ?_
    have s30 : Sp [] G [RowL i28 (B.getD UpdM.zero).av, RowL i20 (A.getD UpdM.zero).av, RowL i1 u.av] G30 := s30
    rw [vun_not, wv_some]
    cases hAs : A.isSome with
    | false =>
      rw [if_pos hAs] at hQ
      exact hQ _ s30.ch
    | true =>
      rw [if_neg (by rw [hAs]; decide)] at hQ
      rw [Bool.not_true, brB_false]
      cases hBs : B.isSome with
      | true =>
        rw [if_pos hBs] at hQ
        exact hQ _ s30.ch
      | false =>
        rw [if_neg (by rw [hBs]; decide)] at hQ
        rw [brB_false]
        refine wv_of (upd_load (i := 2) s30 rfl hu).1 ?_
        rw [vbin_eql, wv_some, brB_dec]
        refine ⟨fun hk2 => ?_, fun hk2 => ?_⟩
        · obtain ⟨x, hx, hxs⟩ := slice_upd hu (RowL.own (i := 2) s30 rfl)
          refine wv_of hx ?_
          refine wv_of (conv_bytes (si := ti_sl_uint8) (ie := ti_uint8) (di := ti_string) T_sl_uint8 rfl T_uint8 rfl T_string rfl hxs) ?_
          refine wv_of (upd_load (i := 1) s30 rfl hf1).2.2.2.1 ?_
          refine one_str s30 fun v37 G38 s38 => ?_
          have hh := hu.hash
          refine hash_Sum.use (xs := [u.hash]) (OwnL.own (i := 0) s38 rfl).cap (by simp) (by simp; omega) fun G40 c40 => ?_
          have s40 := s38.tmp c40
          refine ⟨⟨(upd_load (i := 2) s40 rfl hf1).2.2.2.1, trivial⟩, ?_⟩
          have e1 : [u.hash].flatten = u.hash := by simp
          rw [e1, hash_neq (length_sha' _) hf1.hash, wv_some, brB_ndec]
          refine ⟨fun h => ?_, fun h => ?_⟩
          · rw [if_pos ⟨hk2, h⟩] at hQ
            exact hQ _ s40.ch
          · rw [if_neg (fun hh => hh.2 h)] at hQ
            exact hQ _ s40.ch
        · rw [if_neg (fun hh => hk2 hh.1)] at hQ
          exact hQ _ s30.ch

end
end Go.Esc.M

/- Own work. Chapter 12: UpdateNexts. -/
set_option linter.unusedSimpArgs false
set_option linter.unusedVariables false
set_option maxRecDepth 20000
namespace Go.Esc.M
open Go Go.Esc

section
variable {F0 : List AId} {G0 G : Heap} {ps : List LP} {Q : AVal → Heap → Prop}

theorem upds_uni {l : List UpdM} (h : ∀ p ∈ l, p.ok) : Esc.uni 36 (l.map UpdM.av) = true ∧ okvs (l.map UpdM.av) = true := by
  refine ⟨by simp only [Esc.uni, List.all_map, List.all_eq_true]; intro p hp; simp [UpdM.sz (h p hp)], ?_⟩
  induction l with
  | nil => rfl
  | cons p l ih => simp [okvs, UpdM.okv, ih (fun p hp => h p (by simp [hp]))]

end
end Go.Esc.M

/- Own work. Chapter 12: UpdateNexts, the law. -/
set_option linter.unusedSimpArgs false
set_option linter.unusedVariables false
set_option maxRecDepth 20000
namespace Go.Esc.M
open Go Go.Esc

theorem wt_Upds {G : Heap} {R d : Nat} {v : AVal} {m : Nat} (h : wt T G R (d + 4) t_sl_api_Update v m) : ∃ l : List UpdM, RoSl 36 G v (l.map UpdM.av) ∧ (∀ u ∈ l, u.ok) ∧ l.length * 72 ≤ R := by
  obtain ⟨xs, ms, hro, hall, hms, hR, _⟩ := wt_ro UpdM.av (fun u m => u.ok) T_sl_api_Update rfl T_api_Update (fun c m h => by obtain ⟨u, hu, ho, _⟩ := wt_Upd h; exact ⟨u, hu, ho⟩) h
  refine ⟨xs, hro, fun u hu => ?_, hR⟩
  obtain ⟨m, hm, _⟩ := hall.mem hu
  exact hm

end Go.Esc.M

/- Own work. Chapter 12: two lists that grow: the plain law. -/
set_option linter.unusedSimpArgs false
set_option linter.unusedVariables false
set_option maxRecDepth 20000
namespace Go.Esc.M
open Go Go.Esc

def thereF (u : UpdM) (t : Bool) (b : UpdM) : Bool := if b.kind = 1 ∧ b.id = u.id then decide (u.kind = 3) || decide (sha u.hash = b.hash) else t
def thereU (u : UpdM) (B : List UpdM) : Bool := B.foldl (thereF u) false
def SoundU (A B : List UpdM) : Prop := ∀ i u, A[i]? = some u → if u.kind = 1 then u.id = ((addsU (A.take i) : Nat) : Int) else thereU u B = true ∧ ∀ k v, k < i → A[k]? = some v → v.kind ≠ 1 → v.id ≠ u.id

theorem SoundU.nil (B : List UpdM) : SoundU [] B := fun i u h => by simp at h

end Go.Esc.M

/- Own work. Chapter 12: two lists that grow: what the law's own functions do. -/
set_option linter.unusedSimpArgs false
set_option linter.unusedVariables false
set_option maxRecDepth 20000
namespace Go.Esc.M
open Go Go.Esc

section
variable {F0 : List AId} {G0 G : Heap} {ps : List LP} {Q : AVal → Heap → Prop}

end
end Go.Esc.M

/- Own work. Chapter 13: sums in two parts. -/
set_option linter.unusedSimpArgs false
set_option linter.unusedVariables false
set_option maxRecDepth 20000
namespace Go.Esc.M
open Go Go.Esc


/-- The program's sum: its upper and lower parts, no more than so many steps from nothing. -/
structure Wd (n : Nat) (u l : Int) : Prop where
  u1 : -((n : Int) * 1073741824) ≤ u
  u2 : u ≤ (n : Int) * 1073741824
  l1 : -((n : Int) * 1073741824) ≤ l
  l2 : l ≤ (n : Int) * 1073741824
def amt (a : Int) : Prop := 0 ≤ a ∧ a ≤ 1152921504606846976

section
variable {F0 : List AId} {G0 G : Heap} {ps : List LP} {Q : AVal → Heap → Prop}

/-! ### The document's -/
def small (t : Int) : Prop := -1329227995784915872903807060280344576 ≤ t ∧ t ≤ 1329227995784915872903807060280344576

end

end Go.Esc.M
