/- Own work. Chapter 8: AmountSums. -/
import Derived.Test.YtfcfjlijkmcgmaaLAmParts
set_option linter.unusedSimpArgs false
set_option linter.unusedVariables false
namespace Go.Esc.M
open Go Go.Esc

/-- The last bit turned. -/
def flip1 (x : Int) : Int := IntKind.i64.wrap (BitVec.ofInt 64 x ^^^ BitVec.ofInt 64 1).toNat

theorem vbin_flip (x : Int) : vbin T .xor t_int64 (.int .i64 x) (.int .i64 1) = some (.int .i64 (flip1 x)) := vbin_xor _ _ _ _ _

/-- The list behind so many rounds. -/
def half (i : Nat) (xs : List Int) : List Int := (xs.take i).map flip1 ++ xs.drop i

theorem half_at {i : Nat} {xs : List Int} (h : i < xs.length) : (half i xs)[i]? = some xs[i] := by
  unfold half
  rw [List.getElem?_append_right (by simp; omega)]
  simp [Nat.min_eq_left (Nat.le_of_lt h), h]

theorem half_next {i : Nat} {xs : List Int} (h : i < xs.length) : half (i + 1) xs = (half i xs).set i (flip1 xs[i]) := by
  unfold half
  have e1 : ((xs.take i).map flip1).length = i := by simp; omega
  rw [List.set_append_right _ _ (by omega), e1, Nat.sub_self, List.drop_eq_getElem_cons h, List.set_cons_zero, List.take_succ_eq_append_getElem h, List.map_append, List.append_assoc]
  rfl

theorem half_all (xs : List Int) : half xs.length xs = xs.map flip1 := by simp [half]
theorem length_half (i : Nat) (xs : List Int) (h : i ≤ xs.length) : (half i xs).length = xs.length := by simp [half]; omega

set_option maxRecDepth 20000 in
theorem law_AmountSums {G : Heap} {l : AVal} {ml : Nat} (hl : wt T G reachBytes 4 t_sl_int64 l ml) : ACalls P escrowlaw08_AmountSums.n [l] G fun v _ => v = .bool true := by
  obtain ⟨xs, hro, hwf, hR, _⟩ := wt_roInts T_sl_int64 rfl T_int64 rfl hl
  have hlen : xs.length * 8 ≤ 140737488351232 := hR
  have hok : ∀ ys : List Int, okvs (ys.map (.int .i64)) = true := fun ys => by
    induction ys with
    | nil => rfl
    | cons y ys ih => simp [okvs, okv, ih]
  have hun : ∀ ys : List Int, uni 1 (ys.map (.int .i64)) = true := fun ys => by simp [uni, sz]
  refine escrowlaw08_AmountSums.sound ?_
  unfold escrowlaw08_AmountSums.S
  refine escrowlaw08_first.use fun G1 hle1 => ?_
  have hro1 := hro.mono (RoLe.of_le hle1)
  simp -zeta only [vun_not, wv_some, Bool.not_true, brB_false]
  refine ⟨by decide, fun id0 hf0 => ?_⟩
  have hro2 := hro1.mono (RoLe.of_le (hf0.le (.own (.agg (List.replicate 0 ti_int64.zero)))))
  have hown0 : Own ti_int64.size (G1.upd id0 (.own (.agg (List.replicate 0 ti_int64.zero)))) (.slice id0 [] 0 0 0 0) [] := .inr ⟨id0, 0, 0, [], rfl, Heap.upd_self _ _ _, rfl, Nat.le_refl _, rfl, rfl⟩
  refine own_append (T := T) (e := t_int64) (si := ti_sl_int64) (ie := ti_int64) T_sl_int64 rfl T_int64 rfl (by decide) T_sl_int64 (.inr ⟨t_int64, rfl⟩) hown0 hro2.is.elems (hun _) (hok _) ?_ fun v6 G2 hown1 hk1 => ?_
  · simp only [List.length_nil, List.length_map, ti_int64]
    omega
  have hro3 := hro2.mono hk1.ro
  refine append1 (T := T) (ts := t_sl_int64) (e := t_int64) (si := ti_sl_int64) (ie := ti_int64) T_sl_int64 rfl T_int64 rfl (by decide) hown1 rfl rfl (by decide) ?_ fun v10 G3 hown hk2 => ?_
  · simp only [List.nil_append, List.length_map, ti_int64]
    omega
  have hro4 := hro3.mono hk2.ro
  rw [hro4.is.len (i := ti_sl_int64) T_sl_int64 rfl]
  simp -zeta only [wv_some, List.length_map]
  rcases hown with ⟨_, h⟩ | ⟨id, len, cap, cs, rfl, hg, hcl, hlc, hu, hcs⟩
  · simp at h
  have hlen1 : len = xs.length + 1 := by
    have := congrArg List.length hcs
    simp at this
    omega
  subst hlen1
  have hxs : cs.take xs.length = xs.map (.int .i64) := by
    have := congrArg (List.take xs.length) hcs
    rw [List.take_take, Nat.min_eq_left (by omega)] at this
    rw [← this]
    simp
  have hlast : cs[xs.length]? = some (.int .i64 (-7)) := by
    have h1 : (cs.take (xs.length + 1))[xs.length]? = some (.int .i64 (-7)) := by
      rw [← hcs]
      rw [List.getElem?_append_right (by simp)]
      simp
    rw [List.getElem?_take_of_lt (by omega)] at h1
    exact h1
  have hsl : vslice T t_sl_int64 (.slice id [] 0 0 (xs.length + 1) cap) none (some (.int .i64 xs.length)) none = some (.slice id [] 0 0 xs.length cap) := by
    simp only [vslice, T_sl_int64, ti_sl_int64]
    show (match T 2 with | some ie => _ | none => none) = _
    rw [show T 2 = some ti_int64 from T_int64, sbounds_high (by omega)]
    simp
  rw [hsl]
  simp -zeta only [wv_some]
  have hown13 : IsSl 1 G3 (.slice id [] 0 0 xs.length cap) (xs.map (.int .i64)) := by
    rw [← hxs]
    exact isSl_row hg rfl hu (by omega)
  refine amount_Sum.use hown13 (by omega) ?_
  simp -zeta only [pair0, pair1, wv_some]
  refine escrowref08_Sum.use hro4.is (by omega) ?_
  simp -zeta only [pair0, pair1, wv_some]
  intro J68
  have h68 : J68 (.bool false) G3 := by
    simp -zeta only [J68, brB_false]
    intro Rr hRr
    have loop : ∀ (m i : Nat) (s : AVal) (Gi : Heap) (ci : List AVal), xs.length - i = m → i ≤ xs.length → RoLe G3 Gi → Gi id = some (.own (.agg ci)) → uni 1 ci = true → ci.length = cap → ci.take xs.length = (half i xs).map (.int .i64) →
        Own 1 Gi s ((xs.take i).map flip1 |>.map (.int .i64)) → rowOf s ≠ some id → Rr [l, .slice id [] 0 0 xs.length cap, s, .int .i64 i] Gi := by
      intro m
      induction m with
      | zero =>
        intro i s Gi ci hm hi hroi hgi hui hci hti hos hne
        have hi' : i = xs.length := by omega
        subst hi'
        refine hRr _ _ _ _ _ ?_
        have hsi : IsSl 1 Gi (.slice id [] 0 0 xs.length cap) ((xs.map flip1).map (.int .i64)) := by
          rw [← half_all, ← hti]
          exact isSl_row hgi rfl hui (by omega)
        rw [hsi.len (i := ti_sl_int64) T_sl_int64 rfl]
        simp -zeta only [wv_some, vbin_lss, brB_dec, List.length_map]
        refine ⟨fun h => absurd h (by omega), fun _ => ?_⟩
        refine amount_Sum.use hsi (by simp; omega) ?_
        simp -zeta only [pair0, pair1, wv_some]
        rw [List.take_length] at hos
        refine escrowref08_Sum.use hos.is (by simp; omega) ?_
        simp [pair0, pair1]
      | succ m ih =>
        intro i s Gi ci hm hi hroi hgi hui hci hti hos hne
        have hil : i < xs.length := by omega
        have hroL := hro4.mono hroi
        refine hRr _ _ _ _ _ ?_
        have hsi : IsSl 1 Gi (.slice id [] 0 0 xs.length cap) ((half i xs).map (.int .i64)) := by
          rw [← hti]
          exact isSl_row hgi rfl hui (by omega)
        rw [hsi.len (i := ti_sl_int64) T_sl_int64 rfl]
        simp -zeta only [wv_some, vbin_lss, brB_dec, List.length_map, length_half i xs hi]
        refine ⟨fun _ => ?_, fun h => absurd (by omega) h⟩
        obtain ⟨a1, ha1, hl1⟩ := hsi.at_ (k := .i64) (j := i) (c := .int .i64 xs[i]) (i := ti_sl_int64) (ie := ti_int64) (T := T) (t := t_sl_int64) (e := t_int64) T_sl_int64 rfl T_int64 (by simp [half_at hil]) rfl
        obtain ⟨a2, ha2, hl2⟩ := hroL.is.at_ (k := .i64) (j := i) (c := .int .i64 xs[i]) (i := ti_sl_int64) (ie := ti_int64) (T := T) (t := t_sl_int64) (e := t_int64) T_sl_int64 rfl T_int64 (by simp [hil]) rfl
        simp -zeta only [ha1, hl1, ha2, hl2, wv_some, vbin_neq, decide_true, Bool.not_true, brB_false, vbin_flip]
        obtain ⟨a3, ha3, hst⟩ := own_set (T := T) (t := t_sl_int64) (e := t_int64) (i := ti_sl_int64) (ie := ti_int64) T_sl_int64 rfl T_int64 (G := Gi) (id := id) (len := xs.length) (cap := cap) (j := i) (k := .i64) (c := .int .i64 (flip1 xs[i])) hgi hui hil (by omega) rfl rfl rfl
        rw [ha1] at ha3
        injection ha3 with ha3
        subst ha3
        rw [hst]
        simp -zeta only [wg_some]
        have hro5 : RoLe Gi (Gi.upd id (.own (.agg (ci.set i (.int .i64 (flip1 xs[i])))))) := roLe_upd hgi (by simp)
        have hroL' := hroL.mono hro5
        obtain ⟨a4, ha4, hl4⟩ := hroL'.is.at_ (k := .i64) (j := i) (c := .int .i64 xs[i]) (i := ti_sl_int64) (ie := ti_int64) (T := T) (t := t_sl_int64) (e := t_int64) T_sl_int64 rfl T_int64 (by simp [hil]) rfl
        rw [ha2] at ha4
        injection ha4 with ha4
        subst ha4
        simp -zeta only [hl4, wv_some, vbin_flip]
        refine append1 (T := T) (ts := t_sl_int64) (e := t_int64) (si := ti_sl_int64) (ie := ti_int64) T_sl_int64 rfl T_int64 rfl (by decide) (hos.upd hne) rfl rfl (by decide) ?_ fun s' G6 ho hk => ?_
        · simp only [List.length_map, ti_int64, List.length_take]
          omega
        simp -zeta only [vbin_add, wv_some]
        rw [i64_in (by omega) (by omega)]
        have hg6 : (Gi.upd id (.own (.agg (ci.set i (.int .i64 (flip1 xs[i])))))) id = some (.own (.agg (ci.set i (.int .i64 (flip1 xs[i]))))) := Heap.upd_self _ _ _
        refine ih (i + 1) s' G6 (ci.set i (.int .i64 (flip1 xs[i]))) (by omega) (by omega) ((hroi.trans hro5).trans hk.ro) (hk.others _ _ hg6 hne) (uni_set hui rfl) (by simp [hci]) ?_ ?_ ?_
        · rw [List.take_set, hti, half_next hil, List.map_set]
        · rw [List.take_succ_eq_append_getElem hil, List.map_append, List.map_append]
          exact ho
        · intro hr
          rcases hk.row id hr with h | h
          · exact hne h
          · rw [hg6] at h; cases h
    exact loop xs.length 0 .nilSlice G3 cs rfl (by omega) (RoLe.refl _) hg hu hcl (by rw [hxs]; simp [half]) (.inl ⟨rfl, by simp⟩) (by simp [rowOf])
  rw [hro4.is.len (i := ti_sl_int64) T_sl_int64 rfl]
  have hwhole : IsSl 1 G3 (.slice id [] 0 0 (xs.length + 1) cap) (cs.take (xs.length + 1)) := isSl_row hg rfl hu (by omega)
  obtain ⟨a5, ha5, hl5⟩ := hwhole.at_ (k := .i64) (j := xs.length) (c := .int .i64 (-7)) (i := ti_sl_int64) (ie := ti_int64) (T := T) (t := t_sl_int64) (e := t_int64) T_sl_int64 rfl T_int64 (by rw [List.getElem?_take_of_lt (by omega)]; exact hlast) rfl
  simp -zeta only [wv_some, vbin_neq, decide_true, Bool.not_true, brB_false, List.length_map, ha5, hl5]
  exact h68

end Go.Esc.M
