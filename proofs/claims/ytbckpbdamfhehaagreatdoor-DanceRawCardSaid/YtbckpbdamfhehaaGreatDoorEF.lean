/- Own work. The model's operations that leave the heap alone do what 'dres' says: second part. -/
import Derived.Test.YtbckpbdamfhehaaGreatDoorEE
set_option linter.unusedSimpArgs false
set_option linter.unusedVariables false
namespace Go.Esc
open Go Go.RowKit

section
variable {P : Program} {T : Tbl} (hT : TblOk P T)

include hT in
theorem vfaddr_sound {s : TypeId} {x v : AVal} {f : Nat} (h : vfaddr T s x f = some v) (w : World) : (Instr.fieldAt s (cv x) f).run P w = .ok (cv v) w := by
  unfold vfaddr at h
  split at h
  · rename_i i hi
    have hty := hT s i hi
    obtain ⟨ds, hu, hd⟩ := hty.und
    split at h
    · rename_i fs id p off hdesc
      rw [hdesc] at hd
      obtain ⟨fields, rfl, rfl⟩ := desc_struct hd
      split at h
      · rename_i ft o hfo
        split at h
        · rename_i fi hfi
          split at h
          · cases h
          · rename_i hne
            injection h with h; subst h
            rw [List.getElem?_map] at hfo
            cases hg : fields.toList[f]? with
            | none => simp [hg] at hfo
            | some g =>
              rw [hg] at hfo
              simp only [Option.map_some, Option.some.injEq, Prod.mk.injEq] at hfo
              obtain ⟨rfl, rfl⟩ := hfo
              have hg' : fields[f]? = some g := by rw [← Array.getElem?_toList]; exact hg
              simp only [Instr.fieldAt, Sem.run_bind, run_underlying hu, Result.andThen_ok, hg', Instr.sureAddr, cv, Sem.run_pure, fieldPlace, (hT _ fi hfi).run_sizeOf, hne, if_false, Sem.run_ite, AId.addr_add]
        · cases h
      · cases h
    · cases h
  · cases h

include hT in
theorem viaddr_sound {t : TypeId} {x ix v : AVal} (h : viaddr T t x ix = some v) (w : World) : (Instr.indexAt t (cv x) (cv ix)).run P w = .ok (cv v) w := by
  unfold viaddr at h
  split at h
  · rename_i i hi
    have hty := hT t i hi
    split at h
    · rename_i n e id p off k j hdesc
      have hu := hty.u hdesc (fun _ => desc_array)
      split at h
      · rename_i ie hie
        split at h
        · rename_i hc
          injection h with h; subst h
          simp only [Instr.indexAt, cv, asIntOf, Sem.run_bind, Sem.run_pure, Result.andThen_ok, run_underlying hu, Instr.sureAddr, hc, and_self, if_true, (hT e ie hie).run_sizeOf, AId.addr_add]
        · cases h
      · cases h
    · rename_i e id p st off len cap k j hdesc
      have hu := hty.u hdesc (fun _ => desc_slice)
      split at h
      · rename_i ie hie
        split at h
        · rename_i hc
          injection h with h; subst h
          simp only [Instr.indexAt, cv, asIntOf, Sem.run_bind, Sem.run_pure, Result.andThen_ok, run_underlying hu, hc, and_self, if_true, (hT e ie hie).run_sizeOf, AId.addr_add]
        · cases h
      · cases h
    · cases h
  · cases h

theorem cells_split {cs : List AVal} {k : Nat} {c : AVal} (h : cs[k]? = some c) : flats cs = flats (cs.take k) ++ flat c ++ flats (cs.drop (k + 1)) := by
  obtain ⟨e, _⟩ := set_split cs k c c h
  conv => lhs; rw [e]
  rw [flats_append, flats_cons, List.append_assoc]

include hT in
theorem vindex_sound {t : TypeId} {x ix v : AVal} (h : vindex T t x ix = some v) (w : World) : (Instr.index t (cv x) (cv ix)).run P w = .ok (cv v) w := by
  unfold vindex at h
  split at h
  · rename_i i hi
    have hty := hT t i hi
    split at h
    · rename_i s k j hdesc
      have hu := hty.u hdesc (fun _ => desc_string)
      split at h
      · rename_i h0
        split at h
        · rename_i b hb
          injection h with h; subst h
          have hb' : (⟨s.toArray⟩ : ByteArray)[j.toNat]? = some b := by
            have hlt := (List.getElem?_eq_some_iff.1 hb).1
            have hv := (List.getElem?_eq_some_iff.1 hb).2
            rw [getElem?_pos _ _ (by simpa [ByteArray.size] using hlt)]
            congr 1
          simp only [Instr.index, cv, asIntOf, Sem.run_bind, Sem.run_pure, Result.andThen_ok, run_underlying hu, h0, if_true, hb']
        · cases h
      · cases h
    · rename_i n e cs k j hdesc
      have hu := hty.u hdesc (fun _ => desc_array)
      split at h
      · rename_i ie hie
        split at h
        · rename_i hc
          split at h
          · rename_i c hcs
            split at h
            · rename_i hcc
              injection h with h; subst h
              simp only [Bool.and_eq_true] at hcc
              have hlt := (List.getElem?_eq_some_iff.1 hcs).1
              have hp := run_part (P := P) (hT e ie hie) hcc.2 (X := (flats cs).toArray) (l := flats (cs.take j.toNat)) (r := flats (cs.drop (j.toNat + 1))) (off := j.toNat * ie.size)
                (by simpa using cells_split hcs) (by rw [length_flats, szs_uni (uni_take hcc.1 _), List.length_take, Nat.min_eq_left (by omega)]) w
              simp only [Instr.index, cv, asIntOf, Sem.run_bind, Sem.run_pure, Result.andThen_ok, run_underlying hu, hc, and_self, if_true, (hT e ie hie).run_sizeOf, hp]
            · cases h
          · cases h
        · cases h
      · cases h
    · cases h
  · cases h

include hT in
theorem vfield_sound {t : TypeId} {x v : AVal} {f : Nat} (h : vfield T t x f = some v) (w : World) : (Instr.field t (cv x) f).run P w = .ok (cv v) w := by
  unfold vfield at h
  split at h
  · rename_i i hi
    have hty := hT t i hi
    obtain ⟨ds, hu, hd⟩ := hty.und
    split at h
    · rename_i fs cs hdesc
      rw [hdesc] at hd
      obtain ⟨fields, rfl, rfl⟩ := desc_struct hd
      split at h
      · rename_i ft o c hfo hcs
        split at h
        · rename_i fi hfi
          split at h
          · rename_i hcc
            injection h with h; subst h
            simp only [Bool.and_eq_true, beq_iff_eq] at hcc
            rw [List.getElem?_map] at hfo
            cases hg : fields.toList[f]? with
            | none => simp [hg] at hfo
            | some g =>
              rw [hg] at hfo
              simp only [Option.map_some, Option.some.injEq, Prod.mk.injEq] at hfo
              obtain ⟨rfl, rfl⟩ := hfo
              have hg' : fields[f]? = some g := by rw [← Array.getElem?_toList]; exact hg
              have hp := run_part (P := P) (hT _ fi hfi) hcc.2 (X := (flats cs).toArray) (l := flats (cs.take f)) (r := flats (cs.drop (f + 1))) (off := g.offset)
                (by simpa using cells_split hcs) (by rw [length_flats, hcc.1]) w
              simp only [Instr.field, Sem.run_bind, run_underlying hu, Result.andThen_ok, hg', cv, asAgg, Sem.run_pure, hp]
          · cases h
        · cases h
      · cases h
    · cases h
  · cases h

/-! #### build -/

theorem foldl_put (vs : List Value) : ∀ (off : Nat) (cells : Array Value), off + vs.length ≤ cells.size →
    ((vs.zipIdx).foldl (fun cs (c, j) => cs.setIfInBounds (off + j) c) cells).toList = cells.toList.take off ++ vs ++ cells.toList.drop (off + vs.length) := by
  have key : ∀ (vs : List Value) (k off : Nat) (cells : Array Value), off + k + vs.length ≤ cells.size →
      ((vs.zipIdx k).foldl (fun cs (c, j) => cs.setIfInBounds (off + j) c) cells).toList = cells.toList.take (off + k) ++ vs ++ cells.toList.drop (off + k + vs.length) := by
    intro vs
    induction vs with
    | nil => intro k off cells _; simp
    | cons v vs ih =>
      intro k off cells h
      simp only [List.length_cons] at h
      rw [List.zipIdx_cons, List.foldl_cons, ih (k + 1) off _ (by simp; omega)]
      have ho : off + k < cells.toList.length := by simp; omega
      simp only [Array.toList_setIfInBounds]
      rw [List.set_eq_take_append_cons_drop, if_pos ho, List.take_append, List.drop_append]
      simp only [List.length_take, List.length_cons]
      rw [show min (off + k) cells.toList.length = off + k by omega, List.take_of_length_le (by rw [List.length_take]; omega), show off + (k + 1) - (off + k) = 1 by omega]
      rw [List.drop_eq_nil_of_le (as := List.take (off + k) cells.toList) (by simp; omega), show off + (k + 1) + vs.length - (off + k) = vs.length + 1 by omega]
      simp only [List.take_succ_cons, List.take_zero, List.drop_succ_cons, List.drop_drop, List.nil_append, List.append_assoc, List.cons_append]
      rw [show off + k + 1 + vs.length = off + k + (vs.length + 1) by omega]
  intro off cells h
  exact key vs 0 off cells (by omega)

theorem fillA_sound {pl : Nat → Option (Nat × Nat)} : ∀ (parts : List (Nat × AVal)) (zs cs : List AVal), fillA pl zs parts = some cs →
    Instr.fill pl (flats zs).toArray (parts.map fun q => (q.1, cv q.2)) = some (flats cs).toArray
  | [], zs, cs, h => by simp [fillA] at h; subst h; simp [Instr.fill]
  | (k, v) :: rest, zs, cs, h => by
    simp only [fillA] at h
    split at h
    · rename_i o s z hpl hz
      split at h
      · rename_i hc
        simp only [Bool.and_eq_true, beq_iff_eq] at hc
        obtain ⟨⟨h1, h2⟩, h3⟩ := hc
        obtain ⟨e1, e2⟩ := set_split zs k z v hz
        have hlen : (flats zs).length = (flats (zs.take k)).length + s + (flats (zs.drop (k + 1))).length := by
          rw [cells_split hz]; simp [length_flat, h3]; omega
        have hpre : (flats (zs.take k)).length = o := by rw [length_flats, h1]
        simp only [List.map_cons, Instr.fill, hpl]
        have hvs : (cv v).cells.size = s := by rw [flat_length_cells, h2]
        rw [if_neg (by simp only [hvs]; simp; omega)]
        have hput : (((cv v).cells.zipIdx).foldl (fun cs (c, j) => cs.setIfInBounds (o + j) c) (flats zs).toArray) = (flats (zs.set k v)).toArray := by
          apply Array.ext'
          have hf := foldl_put (flat v) o (flats zs).toArray (by simp [length_flat]; omega)
          have hz2 : (cv v).cells.zipIdx = ((flat v).zipIdx).toArray := by
            apply Array.ext'
            simp [flat]
          rw [hz2, List.foldl_toArray, hf, e2]
          simp only [flats_append, flats_cons]
          rw [cells_split hz]
          simp only [List.append_assoc]
          rw [List.take_append, List.take_of_length_le (by omega), hpre, Nat.sub_self, List.take_zero, List.append_nil]
          congr 2
          rw [List.drop_append, List.drop_eq_nil_of_le (by rw [hpre]; omega), List.nil_append, hpre, length_flat, h2, Nat.add_sub_cancel_left, List.drop_append, List.drop_eq_nil_of_le (by rw [length_flat]; omega), List.nil_append, length_flat, h3, Nat.sub_self, List.drop_zero]
        rw [hput]
        exact fillA_sound rest _ cs h
      · cases h
    · cases h

end
end Go.Esc
