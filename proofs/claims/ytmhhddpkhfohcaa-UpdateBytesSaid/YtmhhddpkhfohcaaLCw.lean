/- Own work. Chapter 3: the document's writers. -/
import Derived.Test.YtmhhddpkhfohcaaLCv
set_option linter.unusedSimpArgs false
set_option linter.unusedVariables false
namespace Go.Esc.M
open Go Go.Esc

theorem escrowref03_Bytes.use {v k : Nat} {G : Heap} {Q : AVal → Heap → Prop} (hk : k ≤ 8) (hQ : ∀ G', Ch [] G [] G' → Q (.str (be k v)) G') : ACalls P escrowref03_Bytes.n [.int .u64 v, .int .i64 k] G Q := by
  refine escrowref03_Bytes.sound ?_
  unfold escrowref03_Bytes.S
  rw [vbin_sub, wv_some, i64_in (by omega) (by omega)]
  intro R hR
  have loop : ∀ (i : Nat) (bs : List UInt8) (s : AVal) (F' : List AId) (G' : Heap), i ≤ k → bs.length + i ≤ 8 → Own 1 G' s (bs.map u8v) → F' = (rowOf s).toList → Ch [] G F' G' → be k v = bs ++ be i v →
      R [.int .u64 v, s, .int .i64 ((i : Int) - 1)] G' := by
    intro i
    induction i with
    | zero =>
      intro bs s F' G' _ _ ho _ hch he
      refine hR _ _ _ _ ?_
      simp -zeta only [vbin_geq, wv_some, brB_dec]
      refine ⟨fun h => absurd h (by omega), fun _ => ?_⟩
      rw [vconv_bytes T_sl_uint8 rfl T_uint8 rfl T_string rfl ho.is, wv_some]
      simp only [be, List.append_nil] at he
      rw [← he]
      exact hQ G' ⟨hch.ro, hch.others, fun j hj => by simp at hj⟩
    | succ i ih =>
      intro bs s F' G' hi hb ho hF hch he
      refine hR _ _ _ _ ?_
      have ei : ((i + 1 : Nat) : Int) - 1 = (i : Int) := by omega
      rw [ei]
      simp -zeta only [vbin_geq, wv_some, brB_dec]
      refine ⟨fun _ => ?_, fun h => absurd (by omega) h⟩
      rw [vconv_int T_int T_uint rfl, wv_some, u64_in (by omega) (by omega), vbin_mul, wv_some, u64_in (by omega) (by omega), vbin_shr _ _ _ _ _ _ (by omega), wv_some, vconv_int T_uint64 T_uint8 rfl, wv_some, shr_byte v i (by omega), ← u8v_ofNat]
      refine append1 (T := T) (ts := t_sl_uint8) (e := t_uint8) (si := ti_sl_uint8) (ie := ti_uint8) T_sl_uint8 rfl T_uint8 rfl (by decide) ho rfl rfl (by decide) ?_ fun s' G2 ho2 hk2 => ?_
      · simp only [List.length_map, ti_uint8]
        omega
      · simp -zeta only [vbin_sub, wv_some]
        rw [i64_in (by omega) (by omega)]
        refine ih (bs ++ [UInt8.ofNat (v / 2 ^ (8 * i))]) s' _ G2 (by omega) (by simp; omega) (by rw [List.map_append]; exact ho2) rfl (hch.trans ⟨hk2.ro, fun j o hj hn => hk2.others j o hj fun e => hn (by rw [hF, e]; simp), fun j hj => ?_⟩) (by rw [he, be]; simp)
        rcases hk2.row j (by simpa using hj) with h | h
        · exact .inl (by rw [hF, h]; simp)
        · exact .inr h
  exact loop k [] .nilSlice [] G (Nat.le_refl _) (by simpa using hk) (.inl ⟨rfl, rfl⟩) rfl (Ch.refl _ _) rfl

section
variable {id : AId} {st : List UInt8 × Int} {G : Heap} {F : List AId} {Q : AVal → Heap → Prop}

theorem laid_nil (st : List UInt8 × Int) : laid st [] = st := by
  obtain ⟨a, b⟩ := st
  by_cases h : b = 0 <;> simp [laid, h]

theorem be1 (b : UInt8) : be 1 b.toNat = [b] := by simp [be]

end
end Go.Esc.M
