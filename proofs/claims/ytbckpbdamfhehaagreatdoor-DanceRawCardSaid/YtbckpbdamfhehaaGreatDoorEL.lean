/- Own work. The operations that make memory, change it, or call: the theorem on all of them. -/
import Derived.Test.YtbckpbdamfhehaaGreatDoorEK
set_option linter.unusedSimpArgs false
set_option linter.unusedVariables false
namespace Go.Esc
open Go Go.RowKit

theorem run_u {P : Program} {s : Sem Unit} {w w' : World} (h : s.run P w = .ok () w') : (do s; pure .skip : Sem Next).run P w = .ok .skip w' := by
  simp [h]

section
variable {cx : Cx} (hcx : CxOk cx) {B : Base} {G : Heap} {w : World} (hr : Rel B G w) {env : Env} {a : Act} (he : EnvOk env a.tmps)

theorem callFunc_wp {f : FuncId} {args : List AVal} {Q : Exit → Act → World → Prop} {o : Oper} {next : Act → World → Prop} {K : Option AVal → Heap → Prop}
    (hr : Rel B G w) (hn : Nexts B a o.dst next K) (h : ACalls cx.P f args G fun v G' => K (some v) G') : o.upon cx.P a next Q ((callFunc f (cvs args).toArray).run cx.P w) := by
  have := h B w hr
  unfold CallsX at this
  split at this
  · rename_i u w' hrun
    rw [hrun]
    obtain ⟨v, G', rfl, r, k⟩ := this
    exact hn _ _ _ _ r (fun x hx => by injection hx with hx; subst hx; rfl) k
  · rename_i f' args' w' hrun
    rw [hrun]
    refine Calls.mono this fun e w'' hh => ?_
    obtain ⟨u, rfl, v, G', rfl, r, k⟩ := hh
    exact hn _ _ _ _ r (fun x hx => by injection hx with hx; subst hx; rfl) k
  · exact this.elim

include hcx hr he in
theorem awpE_sound {o : Oper} {K : Option AVal → Heap → Prop} {next : Act → World → Prop} {Q : Exit → Act → World → Prop}
    (h : awpE cx env G K o.op) (hn : Nexts B a o.dst next K) : o.wp cx.P a w next Q := by
  obtain ⟨dst, op, ty, pos, after, guard⟩ := o
  change awpE cx env G K op at h
  have hT := hcx.tbl
  cases op <;> simp only [awpE] at h <;> try (exact h.elim)
  case alloc e =>
    split at h
    · rename_i i hi
      refine upon_ok (u := .pointer (some ⟨w.heap.size, 0, none⟩)) (w' := w.alloc (.cells (flat i.zero).toArray e)) ?_ (alloc_sound hr hn e h)
      simp only [execOp]
      refine run_v ?_
      simp [Instr.alloc, (hT e i hi).run_zero, run_newVar]
    · exact h.elim
  case box e x =>
    split at h
    · rename_i v hv
      refine upon_ok (u := .pointer (some ⟨w.heap.size, 0, none⟩)) (w' := w.alloc (.cells (flat v).toArray e)) ?_ (alloc_sound hr hn e h)
      simp only [execOp, ev_sound he hv]
      refine run_v ?_
      simp [Instr.box, run_newVar]
    · exact h.elim
  case buildSlice t len parts =>
    split at h
    · rename_i ps hps
      unfold aBuildSlice at h
      split at h
      · rename_i si hsi
        split at h
        · rename_i e hdesc
          have hu := (hT t si hsi).u hdesc (fun _ => desc_slice)
          split at h
          · rename_i i hi
            have hty := hT e i hi
            split at h
            · rename_i cs hcs
              obtain ⟨hsize, h⟩ := h
              refine upon_ok (u := .slice (some ⟨w.heap.size, 0, none⟩) len len) (w' := w.alloc (.cells (flats cs).toArray e)) ?_ (allocSlice_sound hr hn e len len h)
              simp only [execOp]
              refine run_v ?_
              have hfill := fillA_sound ps _ cs hcs
              have hnb : ¬ (16777216 < len * i.size) := by omega
              have hpe : (parts.map fun (q : Nat × Operand) => (q.1, a.eval q.2)) = (ps.map fun q => (q.1, cv q.2)).toArray := by
                apply Array.ext'
                rw [Array.toList_map, evp_sound he hps]
              have hrc := rangeCells_eq i.zero len i.size hty.zsz.symm
              by_cases h0 : len * i.size = 0
              · have hz0 : (flats (List.replicate len i.zero)).toArray = #[] := by
                  rw [← hrc, h0]; simp
                rw [hz0] at hfill
                simp only [Instr.buildSlice, Sem.run_bind, run_underlying hu, Result.andThen_ok, hty.run_sizeOf]
                rw [if_neg (by omega)]
                have hr0 : ∀ f : Nat → Value, Array.map f (Array.range 0) = #[] := fun f => by simp
                simp only [h0, if_true, hpe, hr0, pure_bind, hfill]
                simp [newRow]
              · simp only [Instr.buildSlice, Sem.run_bind, run_underlying hu, Result.andThen_ok, hty.run_sizeOf]
                rw [if_neg (by omega)]
                simp only [h0, if_false, Sem.run_pure, Sem.run_bind, hty.run_zero, Result.andThen_ok, hpe, hrc, hfill]
                simp [newRow]
            · exact h.elim
          · exact h.elim
        · exact h.elim
      · exact h.elim
    · exact h.elim
  case makeSlice t l c =>
    split at h
    · rename_i l' c' hl hc
      unfold aMakeSlice at h
      split at h
      · rename_i si k1 n k2 m hsi
        split at h
        · rename_i e hdesc
          have hu := (hT t si hsi).u hdesc (fun _ => desc_slice)
          split at h
          · rename_i i hi
            have hty := hT e i hi
            obtain ⟨inf, hinf, hsz, hby, hz⟩ := hty.info
            obtain ⟨a1, a2, a3, a4, h⟩ := h
            refine upon_ok (u := .slice (some ⟨w.heap.size, 0, none⟩) n.toNat m.toNat) (w' := w.alloc (.cells (flats (List.replicate m.toNat i.zero)).toArray e)) ?_ (allocSlice_sound hr hn e _ _ h)
            simp only [execOp, ev_sound he hl, ev_sound he hc]
            refine run_v ?_
            have := run_make (P := cx.P) w t e inf (cv i.zero) hu hinf hz k1 k2 n m a1 a2 (by rw [hby]; exact a3) a4
            simp only [cv]
            rw [this, hsz, madeCells_eq _ _ _ hty.zsz.symm]
          · exact h.elim
        · exact h.elim
      · exact h.elim
    · exact h.elim
  case makeMap t r =>
    cases r with
    | some r => simp only at h
    | none =>
    simp only at h
    refine upon_ok (u := .map (some w.heap.size)) (w' := w.alloc (.map #[] 0)) ?_ (hn _ _ _ _ (hr.allocMap 0) (fun x hx => by injection hx with hx; subst hx; simp [cv, nextId]) (h _ hr.fresh))
    simp only [execOp]
    refine run_v ?_
    simp [Instr.makeMap]
  case store t x y =>
    split at h
    · rename_i a' v' h1 h2
      unfold wg at h
      split at h
      · rename_i G' hG
        obtain ⟨w', hrun, hrel⟩ := vstore_sound (P := cx.P) hT hr hG
        refine upon_skip (w' := w') ?_ (hn _ _ _ _ hrel (fun _ hx => by cases hx) h)
        simp only [execOp, ev_sound he h1, ev_sound he h2]
        exact run_u hrun
      · exact h.elim
    · exact h.elim
  case mapUpdate t m k v =>
    split at h
    · rename_i m' k' v' h1 h2 h3
      obtain ⟨w', G', hrun, hrel, hk⟩ := aMapUpdate_sound (P := cx.P) hT hr h
      refine upon_skip (w' := w') ?_ (hn _ _ _ _ hrel (fun _ hx => by cases hx) hk)
      simp only [execOp, ev_sound he h1, ev_sound he h2, ev_sound he h3]
      exact run_u hrun
    · exact h.elim
  case insert t m k v =>
    split at h
    · rename_i m' k' v' h1 h2 h3
      obtain ⟨w', G', hrun, hrel, hk⟩ := aMapUpdate_sound (P := cx.P) hT hr h
      refine upon_skip (w' := w') ?_ (hn _ _ _ _ hrel (fun _ hx => by cases hx) hk)
      simp only [execOp, ev_sound he h1, ev_sound he h2, ev_sound he h3]
      exact run_u hrun
    · exact h.elim
  case convert s d x =>
    split at h
    · rename_i x' hx
      unfold aConvBytes at h
      split at h
      · rename_i si di l hsi hdi
        split at h
        · rename_i e hdesc
          have hdu := (hT d di hdi).u hdesc (fun _ => desc_slice)
          obtain ⟨sd, hsu, _⟩ := (hT s si hsi).und
          split at h
          · rename_i i hi
            obtain ⟨hie, hbig, h⟩ := h
            have hbig : l.length < 2 ^ 63 := by unfold maxLen at hbig; omega
            have heu := (hT e i hi).u hie (fun _ => desc_int)
            have e1 : (⟨l.toArray⟩ : ByteArray).size = l.length := by simp [ByteArray.size]
            let cap := grownCap w (⟨l.toArray⟩ : ByteArray).size 0 e
            have hrun := Lib.run_convert_string_bytes (P := cx.P) w s d e ⟨l.toArray⟩ hsu hdu heu
            have hcells : (Lib.bytesCells w e ⟨l.toArray⟩) = (flat (.agg (l.map (fun b => .int .u8 b.toNat) ++ List.replicate (cap - l.length) (.int .u8 0)))).toArray := by
              apply Array.ext'
              rw [flat_agg, flats_append, show (l.map fun b : UInt8 => AVal.int .u8 b.toNat) = (l.map fun b => (b.toNat : Int)).map (AVal.int .u8) from by rw [List.map_map]; rfl, flats_ints,
                show List.replicate (cap - l.length) (AVal.int .u8 0) = (List.replicate (cap - l.length) (0 : Int)).map (AVal.int .u8) by simp, flats_ints]
              simp [Lib.bytesCells, cap, e1]
            have hcap1 : l.length ≤ cap := by
              show _ ≤ (Question.appendCap _ _ _).cut _
              simp only [Question.cut, e1]; omega
            have hcap2 : cap ≤ maxLen := by
              show (Question.appendCap _ _ _).cut _ ≤ maxLen
              simp only [Question.cut, e1]
              have := Nat.mod_lt (w.tape w.drawn (.appendCap l.length 0 e)) (show 0 < 2 ^ 63 - l.length by omega)
              unfold maxLen
              omega
            have hrel : Rel B (G.upd (nextId w) (.own (.agg (l.map (fun b => .int .u8 b.toNat) ++ List.replicate (cap - l.length) (.int .u8 0))))) (Lib.bytesWorld w e ⟨l.toArray⟩) := by
              refine Rel.add (Rel.move (w' := Lib.bytesWorld w e ⟨l.toArray⟩) hr rfl rfl rfl (by rw [Lib.bytesWorld_size]; omega) (fun k hk => Lib.bytesWorld_at_old _ _ _ _ (Nat.lt_of_lt_of_le (B.lt k hk) hr.size)) (fun j hj => ?_)) ?_
              · cases hg : G j with
                | none => simp [hg] at hj
                | some o' => exact Lib.bytesWorld_at_old _ _ _ _ ((hr.obj _ _ hg).lt hr.size)
              · refine ⟨rfl, rfl, hr.not_prot, e, ((Lib.bytesCells w e ⟨l.toArray⟩).size, (Lib.bytesCells w e ⟨l.toArray⟩).size + 1), ?_, ?_⟩
                · show (Lib.bytesWorld w e ⟨l.toArray⟩).heap[w.heap.size]? = _
                  rw [Lib.bytesWorld_at_new, hcells]
                · right
                  rw [hcells, ← length_flat]
                  simp
            refine upon_ok ?_ (hn (some (.slice (nextId w) [] 0 0 l.length cap)) _ (.slice (some ⟨w.heap.size, 0, none⟩) l.length cap) _ hrel (fun x hx => by injection hx with hx; subst hx; exact (cv_slice_next w _ _).symm) (h cap hcap1 hcap2 _ hr.fresh))
            simp only [execOp, ev_sound he hx, cv]
            refine run_v ?_
            rw [hrun]
            simp only [cap, e1]
          · exact h.elim
        · exact h.elim
      · exact h.elim
    · exact h.elim
  case call c =>
    obtain ⟨callee, args, ats⟩ := c
    simp only at h
    cases callee with
    | builtin b =>
      cases b <;> simp only at h <;> try (exact h.elim)
      case append =>
        split at h
        · rename_i s x ts tx hx ht
          split at h
          · rename_i s' x' h1 h2
            have e1 : args = #[s, x] := Array.ext' (by simpa using hx)
            have e2 : ats = #[ts, tx] := Array.ext' (by simpa using ht)
            subst e1; subst e2
            obtain ⟨u, w', v, G', hrun, hu, hrel, hk⟩ := aAppend_sound (P := cx.P) (ty := ty) hT hr h
            refine upon_ok (u := u) (w' := w') ?_ (hn _ _ _ _ hrel (fun x hx => by injection hx with hx; subst hx; exact hu) hk)
            simp only [execOp, resolve, invoke, Sem.run_bind, Sem.run_pure, Result.andThen_ok, builtin]
            simp [ev_sound he h1, ev_sound he h2, hrun]
          · exact h.elim
        · exact h.elim
      case copy =>
        split at h
        · rename_i s x ts tx hx ht
          split at h
          · rename_i s' x' h1 h2
            have e1 : args = #[s, x] := Array.ext' (by simpa using hx)
            have e2 : ats = #[ts, tx] := Array.ext' (by simpa using ht)
            subst e1; subst e2
            obtain ⟨u, w', v, G', hrun, hu, hrel, hk⟩ := aCopy_sound (P := cx.P) (tx := tx) (ty := ty) hT hr h
            refine upon_ok (u := u) (w' := w') ?_ (hn _ _ _ _ hrel (fun x hx => by injection hx with hx; subst hx; exact hu) hk)
            simp only [execOp, resolve, invoke, Sem.run_bind, Sem.run_pure, Result.andThen_ok, builtin]
            simp [ev_sound he h1, ev_sound he h2, hrun]
          · exact h.elim
        · exact h.elim
    | value f =>
      simp only at h
      split at h
      · rename_i fv args' hf hargs
        unfold aCallV at h
        split at h <;> try (exact h.elim)
        rename_i k first captured
        unfold Oper.wp
        simp only [execOp, resolve, Sem.run_bind, ev_sound he hf, cv, Deferred.ofValue, Sem.run_pure, Result.andThen_ok, invoke, evs_array he hargs]
        have := callFunc_wp (Q := Q) (o := { dst := dst, op := .call { callee := .value f, args := args, argTypes := ats }, type := ty, pos := pos, after := after, guard := guard }) hr hn h
        simpa [cvs_append, List.append_assoc] using this
      · exact h.elim
    | invoke r m =>
      simp only at h
      split at h
      · rename_i rv args' hv hargs
        unfold aInvoke at h
        split at h <;> try (exact h.elim)
        rename_i t v
        split at h
        · rename_i k hk
          unfold Oper.wp
          simp only [execOp, resolve, Sem.run_bind, Sem.run_pure, Result.andThen_ok, invoke, evs_array he hargs]
          have := callFunc_wp (Q := Q) (o := { dst := dst, op := .call { callee := .invoke r m, args := args, argTypes := ats }, type := ty, pos := pos, after := after, guard := guard }) hr hn h
          simp only [ev_sound he hv, cv]
          have e1 : (#[Value.iface t (cv v)] ++ (cvs args').toArray)[0]? = some (Value.iface t (cv v)) := by simp
          have e2 : (#[Value.iface t (cv v)] ++ (cvs args').toArray).extract 1 (#[Value.iface t (cv v)] ++ (cvs args').toArray).size = (cvs args').toArray := by
            apply Array.ext'
            simp
          rw [e1]
          simp only [callMethod, Sem.run_bind, run_program, Result.andThen_ok, hcx.meth t m k hk]
          rw [e2]
          simpa [cvs] using this
        · exact h.elim
      · exact h.elim

end
end Go.Esc
