/- Own work. Chapter 9: the head; SeedSecrets, SeedDerives. -/
import Derived.Test.YtbemdjkjdadpbaaDoorLSd
set_option linter.unusedSimpArgs false
set_option linter.unusedVariables false
namespace Go.Esc.M
open Go Go.Esc

theorem len_secret {s : List UInt8} (h : s.length = 32) (n : Int) : (secretS s n).1.length = 32 := by
  unfold secretS
  cases okN n
  · rfl
  · exact length_down 48 h
theorem len_derive {s : List UInt8} (h : s.length = 32) (a b : Int) : (deriveS s a b).1.length = 32 := by
  unfold deriveS
  cases okN a && okN b
  · rfl
  · rw [cond_true]
    split
    · exact length_down _ h
    · rfl

section
variable {F0 : List AId} {G0 G : Heap} {ps : List LP} {Q : AVal → Heap → Prop}

theorem newH {h : List UInt8} {K : AId → Heap → Prop} (s : Sp F0 G0 ps G) (hl : h.length = 32) (hK : ∀ i G', Sp F0 G0 (RowL i (.agg (h.map u8v)) :: ps) G' → K i G') :
    aNew G (.own z_api_Hash) fun i G2 => wg (vstore T G2 t_api_Hash (.ptr i [] 0) (.agg (h.map u8v))) fun G3 => K i G3 := newVal s T_api_Hash (fits32 hl) (sz32 hl) (okv32 h) hK

theorem escrowlaw09_full.use {c : UInt8} (hQ : ∀ G', Ch [] G [] G' → Q (.agg ((List.replicate 32 c).map u8v)) G') : ACalls P escrowlaw09_full.n [u8v c] G Q := by
  refine escrowlaw09_full.sound ?_
  unfold escrowlaw09_full.S
  rw [z_hash]
  obtain ⟨z, hz⟩ : ∃ z : List UInt8, z = List.replicate 32 0 := ⟨_, rfl⟩
  obtain ⟨D, hD⟩ : ∃ z : List UInt8, z = List.replicate 32 c := ⟨_, rfl⟩
  have hzl : z.length = 32 := by rw [hz]; simp
  have hDl : D.length = 32 := by rw [hD]; simp
  have hDz : D.length = z.length := by omega
  rw [← hz]
  rw [← hD] at hQ
  intro i1 f1
  have s1 := (Sp.nil G).row f1 (.agg (z.map u8v))
  intro i3 f3
  have s3 := s1.row f3 (.agg (z.map u8v))
  intro R hR
  have loop : ∀ (m j : Nat) (G' : Heap), 32 - j = m → j ≤ 32 → Sp [] G [RowL i3 (.agg ((mix D z j).map u8v)), RowL i1 (.agg (z.map u8v))] G' → R [u8v c, .ptr i1 [] 0, .ptr i3 [] 0, .int .i64 (j : Int)] G' := by
    intro m
    induction m with
    | zero =>
      intro j G' hm hj s
      have hjz : j = z.length := by omega
      rw [hjz, mix_full hDz] at s
      refine hR _ _ _ _ _ ?_
      rw [vbin_lss, wv_some, decide_eq_false (by omega), brB_false]
      refine wv_of (load_hash hDl (RowL.own (i := 0) s rfl)) ?_
      refine wg_of (store_hash (hs' := D) hzl hDl (RowL.own (i := 1) s rfl)) ?_
      have s' := Sp.setRow (j := 1) s rfl (.agg (D.map u8v))
      refine wv_of (load_hash hDl (RowL.own (i := 1) s' rfl)) ?_
      exact hQ _ s'.ch
    | succ m ih =>
      intro j G' hm hj s
      have hjz : j < z.length := by omega
      refine hR _ _ _ _ _ ?_
      rw [vbin_lss, wv_some, decide_eq_true (by omega), brB_true]
      refine wv_of (addr_hash (j := j) (by omega)) ?_
      refine wg_of (store_byte (hs := mix D z j) (j := j) (b := c) (by rw [length_mix hDz (by omega)]; exact hjz) (RowL.own (i := 0) s rfl)) ?_
      have hset : (mix D z j).set j c = mix D z (j + 1) := by
        have := mix_set hDz hjz
        have e : D[j]'(by omega) = c := by simp only [hD, List.getElem_replicate]
        rwa [e] at this
      rw [hset]
      have s' := Sp.setRow (j := 0) s rfl (.agg ((mix D z (j + 1)).map u8v))
      rw [vbin_add, wv_some, i64_in (by omega) (by omega)]
      exact ih (j + 1) _ (by omega) (by omega) s'
  exact loop 32 0 _ rfl (by omega) (by rw [mix_zero]; exact s3)

theorem u8_eq (a b : UInt8) {t : TypeId} : vbin T .eql t (u8v a) (u8v b) = some (.bool (decide (a = b))) := by
  unfold u8v
  rw [vbin_eql]
  congr 2
  rw [decide_eq_decide, Int.natCast_inj, UInt8.toNat_inj]

theorem escrowlaw09_begins.use {h : List UInt8} {a b c d : UInt8} (hl : h.length = 32) (hb : h.take 4 = [a, b, c, d]) (hQ : ∀ G', Ch [] G [] G' → Q (.bool true) G') : ACalls P escrowlaw09_begins.n [.agg (h.map u8v), u8v a, u8v b, u8v c, u8v d] G Q := by
  refine escrowlaw09_begins.sound ?_
  unfold escrowlaw09_begins.S
  intro i1 f1
  have s1 := (Sp.nil G).row f1 (.agg (h.map u8v))
  have hg := RowL.own (i := 0) s1 rfl
  have e : ∀ (j : Nat) (hj : j < 4), [a, b, c, d][j]? = some (h[j]'(by omega)) := by
    intro j hj
    rw [← hb, List.getElem?_take_of_lt hj, List.getElem?_eq_getElem]
  have ad : ∀ j : Nat, j < 32 → ∀ m : Int, m = (j : Int) → viaddr T t_api_Hash (.ptr i1 [] 0) (.int .i64 m) = some (.ptr i1 [j] (j * 1)) := fun j hj m hm => by subst hm; exact addr_hash hj
  have q : ∀ (j : Nat) (hj : j < 4) (x : UInt8), [a, b, c, d][j]? = some x → vload T _ t_uint8 (.ptr i1 [j] (j * 1)) = some (u8v x) := fun j hj x hx => by
    rw [e j hj] at hx
    injection hx with hx
    subst hx
    exact load_byte (hs := h) (j := j) (by omega) hg
  refine wv_of (ad 0 (by omega) 0 rfl) ?_
  refine wv_of (q 0 (by omega) a rfl) ?_
  rw [u8_eq, wv_some, decide_eq_true rfl, brB_true]
  refine wv_of (ad 1 (by omega) 1 rfl) ?_
  refine wv_of (q 1 (by omega) b rfl) ?_
  rw [u8_eq, wv_some, decide_eq_true rfl, brB_true]
  refine wv_of (ad 2 (by omega) 2 rfl) ?_
  refine wv_of (q 2 (by omega) c rfl) ?_
  rw [u8_eq, wv_some, decide_eq_true rfl, brB_true]
  refine wv_of (ad 3 (by omega) 3 rfl) ?_
  refine wv_of (q 3 (by omega) d rfl) ?_
  rw [u8_eq, wv_some, decide_eq_true rfl]
  exact hQ _ s1.ch

theorem ok0N : okN 0 = true := by decide
theorem okL : okN 281474976710654 = true := by decide
theorem pl0 : pl 0 = 2 ^ 48 - 1 := by decide
theorem plL : pl 281474976710654 = 1 := by decide
theorem sec_zero : secretS (List.replicate 32 0) 0 = (downS (2 ^ 48 - 1) 48 zero32, 0) := by
  unfold secretS zero32
  rw [ok0N, pl0, cond_true]
theorem sec_one : secretS (List.replicate 32 1) 281474976710654 = (downS 1 48 one32, 0) := by
  unfold secretS one32
  rw [okL, plL, cond_true]
theorem der_34 (A : List UInt8) : deriveS A 3 4 = (zero32, 5) := by
  have h3 : okN 3 = true := by decide
  have h4 : okN 4 = true := by decide
  have hne : ¬ pl 3 / 2 ^ level (pl 3) = pl 4 / 2 ^ level (pl 3) := by decide
  unfold deriveS
  rw [h3, h4, if_neg hne]
  rfl
theorem lev_3 : levelS 3 = (2, 0) := by decide

set_option maxHeartbeats 2000000 in
theorem escrowlaw09_head.use (hT : Tab G) (hQ : ∀ G', Ch [] G [] G' → Q (.bool true) G') : ACalls P escrowlaw09_head.n [] G Q := by
  refine escrowlaw09_head.sound ?_
  unfold escrowlaw09_head.S
  obtain ⟨A, hA⟩ : ∃ A, A = downS (2 ^ 48 - 1) 48 zero32 := ⟨_, rfl⟩
  obtain ⟨B, hB⟩ : ∃ A, A = downS 1 48 one32 := ⟨_, rfl⟩
  have hAl : A.length = 32 := by rw [hA]; exact length_down 48 zero32_len
  have hBl : B.length = 32 := by rw [hB]; exact length_down 48 rfl
  have hA4 : A.take 4 = [2, 164, 12, 133] := by rw [hA]; exact ex_zero
  have hB4 : B.take 4 = [145, 92, 117, 148] := by rw [hB]; exact ex_one
  have hsA : secretS (List.replicate 32 0) 0 = (A, 0) := by rw [hA]; exact sec_zero
  have hsB : secretS (List.replicate 32 1) 281474976710654 = (B, 0) := by rw [hB]; exact sec_one
  have hd : deriveS A 3 4 = (zero32, 5) := der_34 A
  clear hA hB
  refine escrowlaw09_full.use (c := 0) fun G2 c2 => ?_
  have s2 := (Sp.nil G).tmp c2
  refine seed_Secret.use (by simp) fun G4 c4 => ?_
  have s4 := s2.tmp c4
  rw [hsA]
  refine wv_of (hi0 _) ?_
  refine wv_of (hi1 _) ?_
  refine newH s4 hAl fun i7 G9 s9 => ?_
  refine escrowlaw09_full.use (c := 1) fun G11 c11 => ?_
  have s11 := s9.tmp c11
  refine seed_Secret.use (by simp) fun G13 c13 => ?_
  have s13 := s11.tmp c13
  rw [hsB]
  refine wv_of (hi0 _) ?_
  refine wv_of (hi1 _) ?_
  refine newH s13 hBl fun i16 G18 s18 => ?_
  refine seed_Level.use (hT.mono s18.ro) ?_
  rw [lev_3]
  refine wv_of (ii0 _) ?_
  refine wv_of (ii1 _) ?_
  refine wv_of (load_hash hAl (RowL.own (i := 1) s18 rfl)) ?_
  refine seed_Derive.use (hT.mono s18.ro) hAl fun G25 c25 => ?_
  have s25 := s18.tmp c25
  rw [hd]
  refine wv_of (hi0 _) ?_
  refine wv_of (hi1 _) ?_
  refine newH s25 zero32_len fun i28 G30 s30 => ?_
  have s30 : Sp [] G [RowL i28 (.agg (zero32.map u8v)), RowL i16 (.agg (B.map u8v)), RowL i7 (.agg (A.map u8v))] G30 := s30
  refine wv_of (v := .bool true) rfl ?_
  rw [brB_true]
  refine wv_of (v := .bool true) rfl ?_
  rw [brB_true]
  refine wv_of (v := .bool true) rfl ?_
  rw [brB_true]
  refine wv_of (load_hash hAl (RowL.own (i := 2) s30 rfl)) ?_
  refine escrowlaw09_begins.use (a := 2) (b := 164) (c := 12) (d := 133) hAl hA4 fun G36 c36 => ?_
  have s36 := s30.tmp c36
  rw [brB_true]
  refine wv_of (load_hash hBl (RowL.own (i := 1) s36 rfl)) ?_
  refine escrowlaw09_begins.use (a := 145) (b := 92) (c := 117) (d := 148) hBl hB4 fun G39 c39 => ?_
  have s39 := s36.tmp c39
  rw [brB_true]
  refine wv_of (v := .bool true) rfl ?_
  rw [brB_true]
  refine wv_of (v := .bool true) rfl ?_
  rw [brB_true]
  refine escrowlaw09_full.use (c := 0) fun G43 c43 => ?_
  have s43 := s39.tmp c43
  refine seed_Point.use (by simp) fun G45 c45 => ?_
  have s45 := s43.tmp c45
  refine escrowlaw09_begins.use (a := 102) (b := 104) (c := 122) (d := 173) (length_sha _) ex_point fun G47 c47 => ?_
  exact hQ _ (s45.tmp c47).ch

end

set_option maxHeartbeats 2000000 in
theorem law_SeedSecrets {G : Heap} (hT : Tab G) {s n : AVal} {m1 m2 : Nat} (h1 : wt T G reachBytes 4 t_api_Hash s m1) (h2 : wt T G reachBytes 4 t_int64 n m2) : ACalls P escrowlaw09_SeedSecrets.n [s, n] G fun v _ => v = .bool true := by
  obtain ⟨s, rfl, hs, _⟩ := wt_hash T_api_Hash rfl T_uint8 rfl h1
  obtain ⟨n, rfl, _, _⟩ := wt_int T_int64 rfl h2
  refine escrowlaw09_SeedSecrets.sound ?_
  unfold escrowlaw09_SeedSecrets.S
  intro i1 f1
  have s1 := (Sp.nil G).row f1 (.agg (s.map u8v))
  refine escrowlaw09_head.use (hT.mono s1.ro) fun G4 c4 => ?_
  have s4 := s1.tmp c4
  rw [vun_not, wv_some, Bool.not_true, brB_false]
  have hl := len_secret hs n
  refine wv_of (load_hash hs (RowL.own (i := 0) s4 rfl)) ?_
  refine seed_Secret.use hs fun G8 c8 => ?_
  have s8 := s4.tmp c8
  refine wv_of (hi0 _) ?_
  refine wv_of (hi1 _) ?_
  refine newH s8 hl fun i11 G13 s13 => ?_
  refine wv_of (load_hash hs (RowL.own (i := 1) s13 rfl)) ?_
  refine escrowref09_Secret.use hs fun G16 c16 => ?_
  have s16 := s13.tmp c16
  refine wv_of (hi0 _) ?_
  refine wv_of (hi1 _) ?_
  refine newH s16 hl fun i19 G21 s21 => ?_
  refine seed_Level.use (hT.mono s21.ro) ?_
  refine wv_of (ii0 _) ?_
  refine wv_of (ii1 _) ?_
  refine escrowref09_Level.use fun G27 c27 => ?_
  have s27 := s21.tmp c27
  refine wv_of (ii0 _) ?_
  refine wv_of (ii1 _) ?_
  refine wv_of (load_hash hl (RowL.own (i := 1) s27 rfl)) ?_
  refine wv_of (load_hash hl (RowL.own (i := 0) s27 rfl)) ?_
  refine wv_of (hash_eql2 hl hl) ?_
  rw [decide_eq_true rfl, brB_true, ez0, wv_some, brB_true, ez0, wv_some, brB_true, ez0, wv_some, brB_true]
  refine wv_of (load_hash hs (RowL.own (i := 2) s27 rfl)) ?_
  refine wv_of (load_hash hs (RowL.own (i := 2) s27 rfl)) ?_
  refine seed_Point.use hs fun G39 c39 => ?_
  have s39 := s27.tmp c39
  refine ⟨⟨load_hash hs (RowL.own (i := 2) s39 rfl), trivial⟩, ?_⟩
  refine escrowref09_Point.use hs fun G41 c41 => ?_
  refine wv_of (hash_eql2 (length_sha _) (length_sha _)) ?_
  rw [decide_eq_true rfl]

set_option maxHeartbeats 2000000 in
theorem law_SeedDerives {G : Heap} (hT : Tab G) {s a b : AVal} {m1 m2 m3 : Nat} (h1 : wt T G reachBytes 4 t_api_Hash s m1) (h2 : wt T G reachBytes 4 t_int64 a m2) (h3 : wt T G reachBytes 4 t_int64 b m3) : ACalls P escrowlaw09_SeedDerives.n [s, a, b] G fun v _ => v = .bool true := by
  obtain ⟨s, rfl, hs, _⟩ := wt_hash T_api_Hash rfl T_uint8 rfl h1
  obtain ⟨a, rfl, _, _⟩ := wt_int T_int64 rfl h2
  obtain ⟨b, rfl, _, _⟩ := wt_int T_int64 rfl h3
  refine escrowlaw09_SeedDerives.sound ?_
  unfold escrowlaw09_SeedDerives.S
  intro i1 f1
  have s1 := (Sp.nil G).row f1 (.agg (s.map u8v))
  refine escrowlaw09_head.use (hT.mono s1.ro) fun G4 c4 => ?_
  have s4 := s1.tmp c4
  rw [vun_not, wv_some, Bool.not_true, brB_false]
  have hl := len_derive hs a b
  refine wv_of (load_hash hs (RowL.own (i := 0) s4 rfl)) ?_
  refine seed_Derive.use (hT.mono s4.ro) hs fun G8 c8 => ?_
  have s8 := s4.tmp c8
  refine wv_of (hi0 _) ?_
  refine wv_of (hi1 _) ?_
  refine newH s8 hl fun i11 G13 s13 => ?_
  refine wv_of (load_hash hs (RowL.own (i := 1) s13 rfl)) ?_
  refine escrowref09_Derive.use hs fun G16 c16 => ?_
  have s16 := s13.tmp c16
  refine wv_of (hi0 _) ?_
  refine wv_of (hi1 _) ?_
  refine newH s16 hl fun i19 G21 s21 => ?_
  refine wv_of (load_hash hl (RowL.own (i := 1) s21 rfl)) ?_
  refine wv_of (load_hash hl (RowL.own (i := 0) s21 rfl)) ?_
  refine wv_of (hash_eql2 hl hl) ?_
  rw [decide_eq_true rfl, brB_true, ez0, wv_some]

end Go.Esc.M
