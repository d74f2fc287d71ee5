/- Own work. Chapter 16: MsgForms. -/
import Derived.Test.YthaockalmnlceaaLMr
set_option linter.unusedSimpArgs false
set_option linter.unusedVariables false
namespace Go.Esc.M
open Go Go.Esc

theorem shr_signed (n : Int) (k : Nat) (hk : k ≤ 7) : IntKind.u8.wrap (n.fdiv (2 ^ min (8 * k) 64)) = ((bits64 n / 2 ^ (8 * k) % 256 : Nat) : Int) := by
  rw [Nat.min_eq_left (by omega), wrapU8]
  rw [Int.fdiv_eq_ediv_of_nonneg _ (Int.pow_nonneg (by decide))]
  have : k = 0 ∨ k = 1 ∨ k = 2 ∨ k = 3 ∨ k = 4 ∨ k = 5 ∨ k = 6 ∨ k = 7 := by omega
  unfold bits64
  rcases this with rfl | rfl | rfl | rfl | rfl | rfl | rfl | rfl <;> simp only [Nat.reduceMul, Int.reducePow, Nat.reducePow] <;> omega

theorem valid_fields {m : MsgM} (hk : 4 ≤ m.kind ∧ m.kind ≤ 7) (hv : validM m = true) : m.id = 0 ∧ m.amount = 0 ∧ m.note = [] ∧ rightI m.index = true ∧ rightI m.next = true := by
  obtain ⟨hn, h1, h2⟩ := validM_named hv
  refine ⟨?_, ?_, ?_, h1, h2⟩ <;>
  · unfold namedM at hn
    rw [if_neg (by omega)] at hn
    split at hn
    · have := congrArg Prod.fst hn; dsimp only at this; rw [← this]
    split at hn
    · have := congrArg Prod.fst hn; dsimp only at this; rw [← this]
    split at hn
    · have := congrArg Prod.fst hn; dsimp only at this; rw [← this]
    split at hn
    · have := congrArg Prod.fst hn; dsimp only at this; rw [← this]
    · cases congrArg Prod.snd hn

theorem notK {m : MsgM} (hk : 4 ≤ m.kind ∧ m.kind ≤ 7) : ¬ isK m := by unfold isK; omega
theorem be8_inj {x y : Int} (hx : I64 x) (hy : I64 y) (h : be 8 (bits64 x) = be 8 (bits64 y)) : x = y := by
  rw [← wrap_be hx, ← wrap_be hy, h]

theorem readMS_none {m0 : MsgM} (h : m0.ok) (hk : 4 ≤ m0.kind ∧ m0.kind ≤ 7) (hbad : rightI m0.index = false ∨ m0.kind = 6 ∧ rightI m0.next = false) : readMS (bytesM m0) (MsgM.zero, 160) := by
  refine .inr ⟨fun m hm hv he => ?_, rfl⟩
  have hik0 := notK hk
  have hb0 : bytesM m0 = be 1 m0.kind.toNat ++ (be 8 (bits64 m0.index) ++ restM m0) := by unfold bytesM; rw [if_neg hik0]
  have hkk := (bytesM_kind hm hv).2
  have e0 : slice (bytesM m0) 0 1 = be 1 m0.kind.toNat := by
    rw [hb0]
    exact slice_app (x := []) (z := be 8 (bits64 m0.index) ++ restM m0) rfl (length_be _ _)
  rw [← he, e0, num_be_lt (by omega)] at hkk
  have hk' : m.kind = m0.kind := by omega
  have hik : ¬ isK m := by unfold isK; omega
  have hb : bytesM m = be 1 m.kind.toNat ++ (be 8 (bits64 m.index) ++ restM m) := by unfold bytesM; rw [if_neg hik]
  rw [hb0, hb, hk'] at he
  have he1 := List.append_cancel_left he
  obtain ⟨e1, e2⟩ := List.append_inj he1 (by rw [length_be, length_be])
  obtain ⟨_, r1, r2⟩ := validM_named hv
  rcases hbad with hb | ⟨h6, hb⟩
  · rw [be8_inj h.index hm.index e1, r1] at hb
    cases hb
  · unfold restM at e2
    rw [hk', if_neg (by omega), if_neg (by omega), if_pos h6, if_neg (by omega), if_neg (by omega), if_pos h6] at e2
    obtain ⟨e3, _⟩ := List.append_inj e2 (by rw [length_be, length_be])
    rw [be8_inj h.next hm.next e3, r2] at hb
    cases hb

theorem uni_msgs {l : List MsgM} (h : ∀ m ∈ l, m.ok) : uni 70 (l.map MsgM.av) = true := by
  simp only [uni, List.all_map, List.all_eq_true]
  intro m hm
  simpa using MsgM.sz (h m hm)
theorem okvs_msgs : ∀ l : List MsgM, okvs (l.map MsgM.av) = true
  | [] => rfl
  | m :: l => by simp [okvs, MsgM.okv, okvs_msgs l]
theorem build_msgs {zs parts} (hz : z_api_Message = .agg zs) (hs : ∀ p ∈ parts, zs[p.1]?.map sz = some (sz p.2)) : vbuild T t_api_Message parts = some (.agg (setParts zs parts)) := by
  refine build_struct (fs := [(t_int, 0), (t_int64, 1), (t_int64, 2), (t_int64, 3), (t_int64, 4), (t_api_Hash, 5), (t_api_Hash, 37), (t_string, 69)]) T_api_Message rfl hz rfl ?_ hs
  have : z_api_Message = MsgM.zero.av := rfl
  rw [this] at hz
  injection hz with hz
  subst hz
  exact plOk_of rfl
theorem zcs : z_api_Message = .agg MsgM.zero.cs := rfl
theorem sz_hash {h : List UInt8} (hl : h.length = 32) : sz (.agg (h.map u8v)) = 32 := by rw [sz]; exact szh hl
theorem msg_cs (a b c d e : Int) (f g n : List UInt8) : (⟨a, b, c, d, e, f, g, n⟩ : MsgM).cs = [.int .i64 a, .int .i64 b, .int .i64 c, .int .i64 d, .int .i64 e, .agg (f.map u8v), .agg (g.map u8v), .str n] := rfl

section
variable {F0 : List AId} {G0 G : Heap} {ps : List LP} {Q : AVal → Heap → Prop}

theorem escrowlaw16_index.use {n : Int} (hQ : Q (.int .i64 (n % 281474976710656)) G) : ACalls P escrowlaw16_index.n [.int .i64 n] G Q := by
  refine escrowlaw16_index.sound ?_
  unfold escrowlaw16_index.S
  have := and_mask n 48 (by decide)
  have e1 : ((2 ^ 48 - 1 : Nat) : Int) = 281474976710655 := by decide
  have e2 : ((2 ^ 48 : Nat) : Int) = 281474976710656 := by decide
  rw [e1, e2] at this
  rw [vbin_and, this, wv_some]
  exact hQ

theorem escrowlaw16_number.use {n : Int} (hQ : ∀ G', Ch [] G [] G' → Q (.str (be 8 (bits64 n))) G') : ACalls P escrowlaw16_number.n [.int .i64 n] G Q := by
  refine escrowlaw16_number.sound ?_
  unfold escrowlaw16_number.S
  intro R hR
  have loop : ∀ (k : Nat) (l : List UInt8) (s : AVal) (G' : Heap), k ≤ 8 → l.length + k = 8 → l ++ be k (bits64 n) = be 8 (bits64 n) → Sp [] G [OwnL 1 s (l.map u8v)] G' → R [.int .i64 n, s, .int .i64 ((k : Int) - 1)] G' := by
    intro k
    induction k with
    | zero =>
      intro l s G' _ hlen hl hs
      refine hR _ _ _ _ ?_
      rw [vbin_geq, wv_some, decide_eq_false (by omega), brB_false]
      obtain ⟨F, ho, _⟩ := hs.get (i := 0) rfl
      rw [conv_bytes T_sl_uint8 rfl T_uint8 rfl T_string rfl ho.is, wv_some]
      rw [be, List.append_nil] at hl
      rw [hl]
      exact hQ _ hs.ch
    | succ k ih =>
      intro l s G' hk hlen hl hs
      refine hR _ _ _ _ ?_
      have ek : ((k + 1 : Nat) : Int) - 1 = (k : Int) := by omega
      rw [ek, vbin_geq, wv_some, decide_eq_true (by omega), brB_true, vconv_int T_int T_uint rfl, u64_in (by omega) (by omega), wv_some, vbin_mul, u64_in (by omega) (by omega), wv_some]
      refine wv_of (vbin_shr _ _ _ _ _ _ (by omega)) ?_
      have e8 : min ((8 : Int) * (k : Int)).toNat IntKind.i64.bits = min (8 * k) 64 := by
        have : IntKind.i64.bits = 64 := rfl
        omega
      rw [e8, vconv_int T_int64 T_uint8 rfl, shr_signed n k (by omega), wv_some]
      have eb : AVal.int .u8 ((bits64 n / 2 ^ (8 * k) % 256 : Nat) : Int) = u8v (UInt8.ofNat (bits64 n / 2 ^ (8 * k))) := (u8v_ofNat _).symm
      rw [eb]
      refine growV (T := T) (ts := t_sl_uint8) (e := t_uint8) (si := ti_sl_uint8) (ie := ti_uint8) (i := 0) T_sl_uint8 rfl T_uint8 rfl (by decide) hs rfl rfl rfl (by decide) ?_ fun s' G2 h2 => ?_
      · simp only [List.length_map, ti_uint8]; omega
      rw [vbin_sub, wv_some, i64_in (by omega) (by omega)]
      have h2 : Sp [] G [OwnL 1 s' ((l ++ [UInt8.ofNat (bits64 n / 2 ^ (8 * k))]).map u8v)] G2 := by
        rw [List.map_append]
        exact h2
      exact ih _ _ _ (by omega) (by simp; omega) (by rw [List.append_assoc]; exact hl) h2
  have h0 : Sp [] G [OwnL 1 .nilSlice (([] : List UInt8).map u8v)] G := (Sp.nil G).new (p := OwnL 1 .nilSlice []) ⟨.inl ⟨rfl, rfl⟩, rfl⟩ (Ch.refl _ _)
  exact loop 8 [] _ _ (Nat.le_refl _) rfl rfl h0

theorem msgs_setf {T : Tbl} {l : List MsgM} {m m' : MsgM} {p j f o : Nat} {i : AId} {x u : AVal} {tf : TypeId} {fi : TI} {K : Heap → Prop} (hs : Sp F0 G0 ps G) (hi : ps[p]? = some (RowL i (.agg (l.map MsgM.av)))) (hl : ∀ m ∈ l, m.ok) (hj : l[j]? = some m)
    (he : m'.cs = m.cs.set f x) (ho : szs (m.cs.take f) = o) (hu : m.cs[f]? = some u) (ht : T tf = some fi) (hf : vfits fi x = true) (hsz : sz u = sz x) (hok : okv x = true)
    (hK : ∀ G', Sp F0 G0 (ps.set p (RowL i (.agg ((l.set j m').map MsgM.av)))) G' → K G') : wg (vstore T G tf (.ptr i ([j] ++ [f]) (0 + j * 70 + o)) x) K := by
  have hj' : (l.map MsgM.av)[j]? = some (.agg m.cs) := by rw [List.getElem?_map, hj]; rfl
  refine wg_of (arrN_setf (s := 70) (RowL.own hs hi) (uni_msgs hl) hj' ho hu ht hf hsz hok) ?_
  have h1 : (l.map MsgM.av).set j (.agg (m.cs.set f x)) = (l.set j m').map MsgM.av := by
    rw [List.map_set]
    congr 1
    rw [← he]
    rfl
  rw [h1]
  exact hK _ (Sp.setRow hs hi _)

end
end Go.Esc.M
