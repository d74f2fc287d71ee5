/- Own work. The operations that make memory, change it, or call: the theorem. -/
import Derived.Test.YtbckpbdamfhehaaGreatDoorEJ
set_option linter.unusedSimpArgs false
set_option linter.unusedVariables false
namespace Go.Esc
open Go Go.RowKit

theorem growBy_le (need : Nat) : ∀ (k c : Nat), c ≤ need + need / 4 + 512 → Builtin.growBy need k c ≤ need + need / 4 + 512
  | 0, c, h => h
  | k + 1, c, h => by
    unfold Builtin.growBy
    split
    · exact h
    · exact growBy_le need k _ (by omega)
/-- What a slice grows to is borne: up to four fifths of the greatest block. -/
theorem grow_fits {need old bytes : Nat} (h : old < need) (hb : need * bytes ≤ 220000000000000) (h3 : bytes ≤ 1000000) : Builtin.nextslicecap need old * bytes ≤ 281474976710656 := by
  have h1 : Builtin.nextslicecap need old ≤ need + need / 4 + 512 := by
    unfold Builtin.nextslicecap
    split
    · omega
    split
    · omega
    · exact growBy_le need 4 old (by omega)
  have h2 := Nat.mul_le_mul_right bytes h1
  rw [Nat.add_mul, Nat.add_mul] at h2
  have h4 : 4 * (need / 4 * bytes) ≤ need * bytes := by
    rw [← Nat.mul_assoc]
    exact Nat.mul_le_mul_right bytes (Nat.mul_div_le need 4)
  have h5 : 512 * bytes ≤ 512000000 := by omega
  omega

section
variable {P : Program} {T : Tbl} (hT : TblOk P T) {B : Base} {G : Heap} {w : World} (hr : Rel B G w)

include hT in
theorem aAppend_sound (hr : Rel B G w) {ts tx ty : TypeId} {s x : AVal} {K : AVal → Heap → Prop} (h : aAppend T G ts tx s x K) :
    ∃ u w' v G', (Builtin.append_ #[ts, tx] ty #[cv s, cv x]).run P w = .ok u w' ∧ u = cv v ∧ Rel B G' w' ∧ K v G' := by
  replace h := h.out
  unfold aAppend0 at h
  split at h
  · rename_i si xi hsi hxi
    split at h
    · rename_i e hdesc
      have hu := (hT ts si hsi).u hdesc (fun _ => desc_slice)
      split at h
      · rename_i i hi
        have hty := hT e i hi
        obtain ⟨inf, hinf, hsz, hby, hz⟩ := hty.info
        obtain ⟨hk0, h⟩ := h
        have hk : (∃ e', P.underlying tx = some (.slice e')) ∨ P.underlying tx = some .string := by
          rcases hk0 with hk0 | ⟨e', hk0⟩
          · exact .inr ((hT tx xi hxi).u hk0 (fun _ => desc_string))
          · exact .inl ⟨e', (hT tx xi hxi).u hk0 (fun _ => desc_slice)⟩
        split at h
        · rename_i vs hvs
          obtain ⟨g1, g2, g3, g4⟩ := firstCells_src (P := P) hr hvs hk (.inr trivial)
          have hgrow : ∀ (base : Option Addr) (olds : List AVal) (sCap : Nat), sCap < olds.length + vs.length →
              (Builtin.firstCells i.size olds.length (.slice base olds.length sCap)).run P w.drew = .ok (flats olds).toArray w.drew → (flats olds).length = olds.length * i.size →
              grow i G olds vs K → ∃ u w' v G', (Builtin.append_ #[ts, tx] ty #[.slice base olds.length sCap, cv x]).run P w = .ok u w' ∧ u = cv v ∧ Rel B G' w' ∧ K v G' := by
            intro base olds sCap hcap hold holen hg
            obtain ⟨hb1, ⟨hb2, hb3⟩, hg⟩ := hg
            have hb0 : olds.length + vs.length ≤ 220000000000000 := by
              have := Nat.le_mul_of_pos_right (olds.length + vs.length) (Nat.pos_of_ne_zero hb2)
              omega
            have hnot : ¬ (olds.length + vs.length ≤ sCap) := by omega
            have h63 : ¬ (9223372036854775807 < ((olds.length : Int) + (vs.length : Int))) := by omega
            have hfit := grow_fits hcap hb1 hb3
            rw [← hby] at hfit
            have h48 : ¬ (281474976710656 < Builtin.nextslicecap (olds.length + vs.length) sCap * inf.bytes) := by omega
            have hsize : inf.size = i.size := hsz
            let cap := grownCap w (olds.length + vs.length) sCap e
            have hcap1 : olds.length + vs.length ≤ cap := by
              show _ ≤ (Question.appendCap _ _ _).cut _
              simp only [Question.cut]; omega
            have hcap2 : cap ≤ maxLen := by
              show (Question.appendCap _ _ _).cut _ ≤ maxLen
              simp only [Question.cut]
              have := Nat.mod_lt (w.tape w.drawn (.appendCap (olds.length + vs.length) sCap e)) (show 0 < 2 ^ 63 - (olds.length + vs.length) by omega)
              unfold maxLen
              omega
            have hrel := (hr.drew.alloc (.agg (olds ++ vs ++ List.replicate (cap - (olds.length + vs.length)) i.zero)) e (0, 0) (FzOk.zero _))
            refine ⟨_, _, .slice (nextId w) [] 0 0 (olds.length + vs.length) cap, _, ?_, (cv_slice_next w _ _).symm, hrel, hg _ _ hr.drew.fresh hcap1 hcap2⟩
            rw [flat_agg, flats_append, flats_append]
            rcases hk with ⟨e', hk⟩ | hk <;>
              (simp only [hsz.symm] at g2 g3 hold
               simp [Builtin.append_, run_underlying hu, run_underlying hk, sizeOf, typeInfo, zeroValue, hinf, hz, g1, hnot, h63, h48, Question.forced, g3, hold, newRow, cap, grownCap, zeroCells_eq])
          split at h
          · split at h
            · refine ⟨_, w, .nilSlice, G, ?_, rfl, hr, h⟩
              simp only [List.length_nil] at g1 g2
              rcases hk with ⟨e', hk⟩ | hk <;> simp [Builtin.append_, run_underlying hu, run_underlying hk, sizeOf, typeInfo, hinf, cv, g1, hsz, g2]
            · rename_i v vs'
              have := hgrow none [] 0 (by simp) (by simp [Builtin.firstCells, flats]) (by simp [flats]) (by simpa using h)
              simpa [cv] using this
          · rename_i id p st off len cap
            by_cases hc : len + vs.length ≤ cap
            · obtain ⟨G', k1, k2, k3, k4, k5⟩ := lay_sound hr (h.1 hc)
              refine ⟨_, _, _, G', ?_, rfl, k1, k2⟩
              have hsrc : Src P inf.size tx (cv x) vs.length (flats vs) w := ⟨hk, g1, by rw [hsz]; exact g2, by rw [hsz]; exact g3, by rw [hsz]; exact g4, k5⟩
              simp only [cv]
              rcases lay_hol hr (h.1 hc) with he | hh
              · subst he
                rw [show flats ([] : List AVal) = [] from rfl, setCells_nil]
                have hsrc' : Src P inf.size tx (cv x) 0 [] w := hsrc
                have hc0 : len ≤ cap := hc
                rcases hsrc'.kind with ⟨e', hk⟩ | hk <;> simp [Builtin.append_, run_underlying hu, run_underlying hk, sizeOf, typeInfo, hinf, hsrc'.len, hc0, hsrc'.cells, storeCells]
              have := run_append_room_src (P := P) w ts tx ty e inf hu hinf id.block (id.start + off) len cap (cv x) vs.length (flats vs) hsrc hc
                (fun j hj => by have := k3 j hj; rwa [hsz, Nat.add_assoc id.start]) (fun j hj => by have := k4 j hj; rwa [hsz, Nat.add_assoc id.start])
              rw [AId.addr_of hh, this, hsz, Nat.add_assoc id.start]
            · have h2 := h.2 (by omega)
              split at h2
              · rename_i olds holds
                obtain ⟨a1, a2, a3, _⟩ := selems_slice hr holds
                have := hgrow (some (id.addr off)) olds cap (by omega)
                  (run_firstCells_some w.drew i.size olds.length _ olds.length cap (flats olds) (by rw [a3, a1]) fun j u hj => by simpa using selems_at hr holds j u hj)
                  (by rw [a3, a1]) h2
                simp only [cv]
                rw [a1] at this
                exact this
              · exact h2.elim
          · exact h.elim
        · exact h.elim
      · exact h.elim
    · exact h.elim
  · exact h.elim

theorem min_eq (a b : Nat) : Nat.min a b = min a b := rfl

include hT in
theorem aCopy_sound (hr : Rel B G w) {td tx ty : TypeId} {d x : AVal} {K : AVal → Heap → Prop} (h : aCopy T G td d x K) :
    ∃ u w' v G', (Builtin.copy_ #[td, tx] ty #[cv d, cv x]).run P w = .ok u w' ∧ u = cv v ∧ Rel B G' w' ∧ K v G' := by
  unfold aCopy at h
  split at h
  · rename_i di hdi
    split at h
    · rename_i e hdesc
      have hu := (hT td di hdi).u hdesc (fun _ => desc_slice)
      split at h
      · rename_i i hi
        have hty := hT e i hi
        split at h
        · rename_i vs hvs
          have hlen : (Builtin.lenOf (cv x)).run P w = .ok vs.length w := by
            cases x with
            | slice id p st off len cap => obtain ⟨h1, _⟩ := selems_slice hr hvs; simp [Builtin.lenOf, cv, h1]
            | nilSlice => simp [selems] at hvs; subst hvs; simp [Builtin.lenOf, cv]
            | str s =>
              simp only [selems] at hvs
              split at hvs
              · injection hvs with hvs; subst hvs; simp [Builtin.lenOf, cv, ByteArray.size]
              · cases hvs
            | _ => simp [selems] at hvs
          have hfirst : ∀ n, n ≤ vs.length → (Builtin.firstCells i.size n (cv x)).run P w = .ok (flats (vs.take n)).toArray w := by
            intro n hn
            cases x with
            | slice id p st off len cap =>
              have hat := selems_at hr hvs
              simp only [selems] at hvs
              split at hvs
              · rename_i cs hcs
                split at hvs
                · rename_i hle
                  injection hvs with hvs; subst hvs
                  have hn' : n ≤ len := by rw [List.length_take, List.length_drop] at hn; omega
                  obtain ⟨a1, a2⟩ := arrAt_cells hr hcs 0 n (by omega)
                  simp only [Nat.add_zero, Nat.zero_mul] at a1 a2
                  rw [List.take_take, Nat.min_eq_left hn']
                  refine run_firstCells_some w i.size n _ len cap _ a2 fun j u hj => hat j u ?_
                  have e : (cs.drop st).take len = ((cs.drop st).take n) ++ ((cs.drop st).take len).drop n := by
                    conv => lhs; rw [← List.take_append_drop n ((cs.drop st).take len)]
                    rw [List.take_take, Nat.min_eq_left hn']
                  rw [e, flats_append, List.getElem?_append_left (List.getElem?_eq_some_iff.1 hj).1]
                  exact hj
                · cases hvs
              · cases hvs
            | nilSlice => simp [selems] at hvs; subst hvs; simp [Builtin.firstCells, cv, flats]
            | str s =>
              simp only [selems] at hvs
              split at hvs
              · rename_i h1
                injection hvs with hvs; subst hvs
                rw [← List.map_take, show ((s.take n).map fun b : UInt8 => AVal.int .u8 b.toNat) = ((s.take n).map fun b => (b.toNat : Int)).map (AVal.int .u8) from by rw [List.map_map]; rfl, flats_ints]
                simp only [Builtin.firstCells, cv, Sem.run_pure]
                congr 1
                apply Array.ext'
                simp [ByteArray.data_extract]
                rfl
              · cases hvs
            | _ => simp [selems] at hvs
          split at h
          · refine ⟨_, w, .int .i64 0, G, ?_, rfl, hr, h⟩
            have := hfirst 0 (Nat.zero_le _)
            simp [Builtin.copy_, run_underlying hu, cv, hlen, hty.run_sizeOf, this, goInt, min_eq]
          · rename_i id p st off len cap
            obtain ⟨G', k1, k2, k3, k4, k5⟩ := lay_sound hr h
            simp only [Nat.zero_mul, Nat.add_zero] at k1 k3 k4
            refine ⟨_, _, _, G', ?_, rfl, k1, k2⟩
            have hf := hfirst (min vs.length len) (Nat.min_le_left _ _)
            have e1 : vs.take (min vs.length len) = vs.take len := by
              rw [Nat.min_comm, ← List.take_take, List.take_length]
            rw [e1] at hf
            have hst := run_storeCells_cells (P := P) id.block (id.start + off) (flats (vs.take len)) 0 w (by simpa using k3) (by simpa using k4) k5
            simp only [Nat.add_zero] at hst
            have hst2 : (storeCells (id.addr off) (flats (vs.take len))).run P w = .ok () (w.setCells id.block (id.start + off) (flats (vs.take len))) := by
              rcases lay_hol hr h with he | hh
              · rw [he, show flats ([] : List AVal) = [] from rfl, setCells_nil]
                simp [storeCells]
              · rw [AId.addr_of hh]
                exact hst
            simp [Builtin.copy_, run_underlying hu, cv, hlen, hty.run_sizeOf, hf, goInt, min_eq, hst2]
          · exact h.elim
        · exact h.elim
      · exact h.elim
    · exact h.elim
  · exact h.elim

theorem findA_lt {k : AVal} : ∀ (es : List (AVal × AVal)) (i j : Nat) (v : AVal), findA k es i = some (some (j, v)) → i ≤ j ∧ j < i + es.length ∧ ∃ x, es[j - i]? = some x ∧ sameA k x.1 = some true
  | [], i, j, v, h => by simp [findA] at h
  | e :: es, i, j, v, h => by
    simp only [findA] at h
    split at h
    · rename_i hs
      simp only [Option.some.injEq, Prod.mk.injEq] at h
      obtain ⟨rfl, rfl⟩ := h
      exact ⟨Nat.le_refl _, by simp, e, by simp, hs⟩
    · obtain ⟨h1, h2, x, h3, h4⟩ := findA_lt es (i + 1) j v h
      refine ⟨by omega, by simp; omega, x, ?_, h4⟩
      rw [show j - i = (j - (i + 1)) + 1 by omega]
      simpa using h3
    · cases h

theorem sameBits_of {k e : AVal} (h : sameA k e = some true) : Instr.sameBits 10000 (cv e) (cv k) = true := by
  unfold sameA at h
  split at h
  · split at h
    · rename_i hk
      subst hk
      simp at h; subst h
      simp [Instr.sameBits, cv]
    · cases h
  · simp at h; subst h; simp [Instr.sameBits, cv, beq_toListBytes]
  · simp at h; subst h; simp [Instr.sameBits, cv]
  · cases h

include hT in
theorem aMapUpdate_sound (hr : Rel B G w) {t : TypeId} {m k v : AVal} {K : Heap → Prop} (h : aMapUpdate T G t m k v K) :
    ∃ w' G', (Instr.mapUpdate t (cv m) (cv k) (cv v)).run P w = .ok () w' ∧ Rel B G' w' ∧ K G' := by
  unfold aMapUpdate at h
  split at h
  · rename_i i hi
    split at h
    · rename_i kt et hdesc
      have hu := (hT t i hi).u hdesc (fun _ => desc_map)
      split at h
      · rename_i ki hki
        obtain ⟨hkf, h⟩ := h
        have htk := hT kt ki hki
        obtain ⟨dk, huk, hdk⟩ := htk.und
        have hkf' : keyFits (descOf dk) k = true := by rw [hdk]; exact hkf
        split at h
        · rename_i id
          split at h
          · rename_i es hid
            obtain ⟨ents, clk, h1, h1', h3⟩ := rel_map_heap (P := P) hr hid
            have hfind : ∀ r, findA k es 0 = some r → (Instr.findKey kt (cv k) ents.toList).run P w = .ok (r.map fun q => (q.1, cv q.2)) w := by
              intro r hrr
              simp [Instr.findKey, run_underlying huk, findA_now hkf' es ents.toList 0 r h3 hrr]
            have hset : ∀ (ents' : Array MapEntry) (c : Nat), (setObj id.block (.map ents' c)).run P w = .ok () { w with heap := w.heap.setIfInBounds id.block (.map ents' c) } := by
              intro ents' c
              simp [setObj, Sem.run, h1']
            have hlt : id.block < w.heap.size := (Array.getElem?_eq_some_iff.1 h1').1
            have hrel : ∀ (ents' : Array MapEntry) (c : Nat) (es' : List (AVal × AVal)), ents'.toList.map (fun e => (e.key, e.val)) = es'.map (fun p => (cv p.1, cv p.2)) →
                Rel B (G.upd id (.map es')) { w with heap := w.heap.setIfInBounds id.block (.map ents' c) } := by
              intro ents' c es' hes'
              refine hr.setMap hid rfl rfl rfl (by simp) (fun k hk => ?_) ⟨ents', c, by simp [hlt], hes'⟩
              simp [Array.getElem?_setIfInBounds_ne (Ne.symm hk)]
            split at h
            · rename_i j v' hf
              obtain ⟨_, hj, x, hx, hsame⟩ := findA_lt es 0 j v' hf
              simp only [Nat.zero_add, Nat.sub_zero] at hj hx
              have hlen : ents.size = es.length := by have := congrArg List.length h3; simpa using this
              have hjl : j < ents.size := by omega
              have hkey : ents[j].key = cv x.1 := by
                have := congrArg (fun l => l[j]?) h3
                simp only [List.getElem?_map, hx, Array.getElem?_toList, Array.getElem?_eq_getElem hjl, Option.map_some, Option.some.injEq, Prod.mk.injEq] at this
                exact this.1
              refine ⟨_, _, ?_, hrel (ents.modify j fun e => { e with key := cv k, val := cv v }) clk _ ?_, h⟩
              · simp only [cv, Instr.mapUpdate, Sem.run_bind, run_underlying hu, Result.andThen_ok, h1, checkKey_sound htk hkf, hfind _ hf, Option.map_some]
                simp [Array.getElem?_eq_getElem hjl, hkey, Instr.keyThatStays, sameBits_of hsame, hset]
              · apply List.ext_getElem?
                intro q
                simp only [List.getElem?_map, List.getElem?_set, Array.getElem?_toList, Array.getElem?_modify]
                have hq : (ents[q]?).map (fun e => (e.key, e.val)) = (es[q]?).map (fun p => (cv p.1, cv p.2)) := by
                  have := congrArg (fun l => l[q]?) h3
                  simpa using this
                by_cases hjq : j = q
                · subst hjq
                  simp [hj, hjl]
                · simp [hjq, hq]
            · rename_i hf
              refine ⟨_, _, ?_, hrel (ents.push { key := cv k, val := cv v, born := clk }) (clk + 1) _ ?_, h⟩
              · simp only [cv, Instr.mapUpdate, Sem.run_bind, run_underlying hu, Result.andThen_ok, h1, checkKey_sound htk hkf, hfind _ hf, Option.map_none]
                simp [hset]
              · simp [h3]
            · exact h.elim
          · exact h.elim
        · exact h.elim
      · exact h.elim
    · exact h.elim
  · exact h.elim

end
end Go.Esc
