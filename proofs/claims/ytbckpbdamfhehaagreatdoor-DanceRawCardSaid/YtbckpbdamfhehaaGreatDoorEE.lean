/- Own work. The model's operations that leave the heap alone do what 'dres' says. -/
import Derived.Test.YtbckpbdamfhehaaGreatDoorED
set_option linter.unusedSimpArgs false
set_option linter.unusedVariables false
namespace Go.Esc
open Go Go.RowKit

section
variable {P : Program} {T : Tbl} (hT : TblOk P T)

theorem desc_slice {d : TypeDesc} {e : Nat} (h : descOf d = .slice e) : d = .slice e := by
  cases d <;> simp [descOf] at h; subst h; rfl
theorem desc_string {d : TypeDesc} (h : descOf d = .string) : d = .string := by
  cases d <;> simp [descOf] at h; rfl
theorem desc_bool {d : TypeDesc} (h : descOf d = .bool) : d = .bool := by
  cases d <;> simp [descOf] at h; rfl
theorem desc_int {d : TypeDesc} {k : IntKind} (h : descOf d = .int k) : d = .int k := by
  cases d <;> simp [descOf] at h; subst h; rfl
theorem desc_map {d : TypeDesc} {k e : Nat} (h : descOf d = .map k e) : d = .map k e := by
  cases d <;> simp [descOf] at h; obtain ⟨rfl, rfl⟩ := h; rfl
theorem desc_pointer {d : TypeDesc} {e : Nat} (h : descOf d = .pointer e) : d = .pointer e := by
  cases d <;> simp [descOf] at h; subst h; rfl

theorem TyOk.u {t : TypeId} {i : TI} (h : TyOk P t i) {d : TypeDesc} {a : ADesc} (ha : i.desc = a) (hd : ∀ d', descOf d' = a → d' = d) : P.underlying t = some d := by
  obtain ⟨ds, h1, h2⟩ := h.und
  rw [ha] at h2
  rw [h1, hd ds h2]

/-! #### the elements of a slice -/

theorem bytesOf_map {vs : List AVal} {l : List UInt8} (h : bytesOf vs = some l) : ∃ ns : List Int, vs = ns.map (AVal.int .u8) ∧ l = ns.map fun n => UInt8.ofNat n.toNat := by
  induction vs generalizing l with
  | nil => simp [bytesOf] at h; subst h; exact ⟨[], rfl, rfl⟩
  | cons v vs ih =>
    cases v with
    | int k n =>
      cases k <;> simp only [bytesOf] at h <;> try (cases h; done)
      split at h
      · rename_i l' hl
        injection h with h; subst h
        obtain ⟨ns, h1, h2⟩ := ih hl
        exact ⟨n :: ns, by simp [h1], by simp [h2]⟩
      · cases h
    | _ => simp [bytesOf] at h

theorem flats_ints (k : IntKind) (ns : List Int) : flats (ns.map (AVal.int k)) = ns.map (Value.int k) := by
  induction ns with
  | nil => simp [flats]
  | cons n ns ih => rw [List.map_cons, flats_cons, ih]; simp [flat, cv, Value.cells]

theorem arrAt_cells {B : Base} {G : Heap} {w : World} (hr : Rel B G w) {n : Nat} {id : AId} {p : List Nat} {st off : Nat} {cs : List AVal} (h : arrAt G n id p st off = some cs) (k m : Nat) (hk : st + k + m ≤ cs.length) :
    w.rangeAt id.block (id.start + (off + k * n)) (flats ((cs.drop (st + k)).take m)) ∧ (flats ((cs.drop (st + k)).take m)).length = m * n := by
  unfold arrAt at h
  split at h
  · rename_i cs' hs
    split at h
    · rename_i hc
      injection h with h; subst h
      simp only [Bool.and_eq_true, decide_eq_true_eq] at hc
      have hcell := vsub_cells hr hs
      have hu := uni_take (uni_drop hc.2 (st + k)) m
      have hlen : (flats ((cs'.drop (st + k)).take m)).length = m * n := by
        rw [length_flats, szs_uni hu, List.length_take, List.length_drop, Nat.min_eq_left (by omega)]
      refine ⟨?_, hlen⟩
      intro j u hj
      have e : cs' = cs'.take (st + k) ++ ((cs'.drop (st + k)).take m ++ (cs'.drop (st + k)).drop m) := by rw [List.take_append_drop, List.take_append_drop]
      have hpre : (flats (cs'.take (st + k))).length = (st + k) * n := by
        rw [length_flats, szs_uni (uni_take hc.2 _), List.length_take, Nat.min_eq_left (by omega)]
      have hjl := (List.getElem?_eq_some_iff.1 hj).1
      have := hcell ((st + k) * n + j) u (by
        rw [flat_agg]
        conv => lhs; rw [e]
        rw [flats_append, flats_append, List.getElem?_append_right (by omega), hpre, Nat.add_sub_cancel_left, List.getElem?_append_left hjl]
        exact hj)
      have hst : st * n ≤ off := hc.1
      have e2 : id.start + (off - st * n) + ((st + k) * n + j) = id.start + (off + k * n) + j := by rw [Nat.add_mul]; omega
      rwa [e2] at this
    · cases h
  · cases h

theorem selems_slice {B : Base} {G : Heap} {w : World} (hr : Rel B G w) {n : Nat} {id : AId} {p : List Nat} {st off len cap : Nat} {vs : List AVal} (h : selems G n (.slice id p st off len cap) = some vs) :
    vs.length = len ∧ w.rangeAt id.block (id.start + off) (flats vs) ∧ (flats vs).length = len * n ∧ uni n vs = true := by
  simp only [selems] at h
  split at h
  · rename_i cs hc
    split at h
    · rename_i hle
      injection h with h; subst h
      have := arrAt_cells hr hc 0 len (by omega)
      simp only [Nat.add_zero, Nat.zero_mul] at this
      refine ⟨by rw [List.length_take, List.length_drop, Nat.min_eq_left (by omega)], this.1, this.2, ?_⟩
      unfold arrAt at hc
      split at hc
      · split at hc
        · rename_i hcc
          injection hc with hc; subst hc
          simp only [Bool.and_eq_true, decide_eq_true_eq] at hcc
          exact uni_take (uni_drop hcc.2 _) _
        · cases hc
      · cases hc
    · cases h
  · cases h

theorem selems_hol {B : Base} {G : Heap} {w : World} (hr : Rel B G w) {n : Nat} {id : AId} {p : List Nat} {st off len cap : Nat} {vs : List AVal} (h : selems G n (.slice id p st off len cap) = some vs) {j : Nat} {u : Value} (hj : (flats vs)[j]? = some u) : id.hol = none := by
  simp only [selems] at h
  split at h
  · rename_i cs hc
    split at h
    · injection h with h; subst h
      unfold arrAt at hc
      split at hc
      · rename_i cs' hs
        split at hc
        · injection hc with hc; subst hc
          have e : cs' = cs'.take st ++ ((cs'.drop st).take len ++ (cs'.drop st).drop len) := by rw [List.take_append_drop, List.take_append_drop]
          have hl := (List.getElem?_eq_some_iff.1 hj).1
          have hpos : 0 < (flat (.agg cs')).length := by
            rw [flat_agg]
            conv => rhs; rw [e]
            rw [flats_append, flats_append, List.length_append, List.length_append]
            omega
          exact vsub_hol hr hs (List.getElem?_eq_getElem hpos)
        · cases hc
      · cases hc
    · cases h
  · cases h
theorem selems_at {B : Base} {G : Heap} {w : World} (hr : Rel B G w) {n : Nat} {id : AId} {p : List Nat} {st off len cap : Nat} {vs : List AVal} (h : selems G n (.slice id p st off len cap) = some vs) (j : Nat) (u : Value) (hj : (flats vs)[j]? = some u) : w.cell? ((id.addr off).add j) = some u := by
  have := (selems_slice hr h).2.1 j u hj
  rw [AId.addr_add, AId.addr_of (selems_hol hr h hj), ← Nat.add_assoc]
  exact this

theorem foldl_push (ns : List Int) : ∀ s : ByteArray, ns.foldl (fun r n => r.push (UInt8.ofNat n.toNat)) s = ⟨(s.data.toList ++ ns.map fun n => UInt8.ofNat n.toNat).toArray⟩ := by
  induction ns with
  | nil => intro s; simp
  | cons n ns ih => intro s; rw [List.foldl_cons, ih]; simp [ByteArray.push]

include hT in
theorem vconv_sound {B : Base} {G : Heap} {w : World} (hr : Rel B G w) {s d : TypeId} {x v : AVal} (h : vconv T G s d x = some v) :
    (convert s d (cv x)).run P w = .ok (cv v) w := by
  unfold vconv at h
  split at h
  · rename_i si di hsi hdi
    have hs := hT s si hsi
    have hd := hT d di hdi
    obtain ⟨sd, hsu, hsd⟩ := hs.und
    split at h
    · rename_i k k' n hk
      injection h with h; subst h
      have := hd.u hk (fun _ => desc_int)
      simp only [convert, Sem.run_bind, run_underlying hsu, run_underlying this, cv, Result.andThen_ok]
      cases sd <;> simp [Conv.intToInt]
    · rename_i l hk
      injection h with h; subst h
      have := hd.u hk (fun _ => desc_string)
      simp only [convert, Sem.run_bind, run_underlying hsu, run_underlying this, cv, Result.andThen_ok]
      cases sd <;> simp
    · rename_i hk _
      have hdu := hd.u hk (fun _ => desc_string)
      split at h
      · rename_i e hse
        split at h
        · rename_i ie hie
          split at h
          · rename_i hie2
            have hsu := hs.u hse (fun _ => desc_slice)
            have heu := (hT e ie hie).u hie2 (fun _ => desc_int)
            split at h
            · injection h with h; subst h
              simp [convert, run_underlying hsu, run_underlying hdu, run_underlying heu, cv, Conv.bytesToString]
              rfl
            · rename_i id p st off len cap _
              split at h
              · rename_i vs hvs
                split at h
                · rename_i l hl
                  injection h with h; subst h
                  obtain ⟨h1, h2, h3, _⟩ := selems_slice hr hvs
                  obtain ⟨ns, rfl, rfl⟩ := bytesOf_map hl
                  rw [flats_ints] at h2 h3
                  have hl := run_loadCells_list (P := P) w (id.addr off) (ns.map (Value.int .u8)) (fun j u hj => selems_at hr hvs j u (by rw [flats_ints]; exact hj))
                  rw [h3, Nat.mul_one] at hl
                  simp only [cv]
                  rw [run_convert_bytes_string w s d e _ _ _ hsu heu hdu, run_bytesToString w _ _ _ ns hl, foldl_push]
                  simp
                · cases h
              · cases h
            · cases h
          · cases h
        · cases h
      · cases h
    · cases h
  · cases h

/-! #### bounds -/

theorem sbound_none {dflt y n : Nat} (h : sbound none dflt y = some n) : n = dflt := by
  simp [sbound] at h; exact h.symm

theorem sbound_some {x : AVal} {dflt y n : Nat} (h : sbound (some x) dflt y = some n) (code : BoundsCode) (w : World) :
    (Instr.sliceBound (cv x) y code).run P w = .ok n w := by
  cases x with
  | int k i =>
    simp only [sbound] at h
    by_cases hc : 0 ≤ i ∧ i ≤ (y : Int)
    · rw [if_pos hc] at h
      injection h with h; subst h
      simp [Instr.sliceBound, cv, asIntOf, hc]
    · rw [if_neg hc] at h; cases h
  | _ => simp [sbound] at h

theorem sbounds_sound {len cap l h m : Nat} {low high mx : Option AVal} (hb : sbounds len cap low high mx = some (l, h, m)) (isSlice : Bool) (w : World) :
    (Instr.sliceBounds isSlice len cap (low.map cv) (high.map cv) (mx.map cv)).run P w = .ok (l, h, m) w := by
  unfold sbounds at hb
  split at hb
  · rename_i m' hm
    split at hb
    · rename_i h' hh
      split at hb
      · rename_i l' hl
        injection hb with hb
        injection hb with e1 e2
        injection e2 with e2 e3
        subst e1; subst e2; subst e3
        unfold Instr.sliceBounds
        cases mx with
        | none =>
          obtain rfl := sbound_none hm
          simp only [Option.map_none, Sem.run_bind, Sem.run_pure, Result.andThen_ok]
          cases high with
          | none =>
            simp only [Option.isNone_none, Option.isSome_none, Bool.and_false, Bool.false_eq_true, if_false] at hh
            obtain rfl := sbound_none hh
            simp only [Option.map_none, Sem.run_pure, Result.andThen_ok]
            cases low with
            | none => obtain rfl := sbound_none hl; simp
            | some x => simp [sbound_some hl]
          | some y =>
            simp only [Option.isNone_some, Bool.false_and, Bool.false_eq_true, if_false] at hh
            cases low with
            | none => obtain rfl := sbound_none hl; simp [sbound_some hh]
            | some x => simp [sbound_some hh, sbound_some hl]
        | some z =>
          cases high with
          | none => simp at hh
          | some y =>
            simp only [Option.isNone_some, Bool.false_and, Bool.false_eq_true, if_false] at hh
            cases low with
            | none => obtain rfl := sbound_none hl; simp [sbound_some hm, sbound_some hh]
            | some x => simp [sbound_some hm, sbound_some hh, sbound_some hl]
      · cases hb
    · cases hb
  · cases hb

theorem sbound_le {v : Option AVal} {dflt y n : Nat} (h : sbound v dflt y = some n) (hd : dflt ≤ y) : n ≤ y := by
  cases v with
  | none => rw [sbound_none h]; exact hd
  | some x =>
    cases x with
    | int k i =>
      simp only [sbound] at h
      by_cases hc : 0 ≤ i ∧ i ≤ (y : Int)
      · rw [if_pos hc] at h; injection h with h; omega
      · rw [if_neg hc] at h; cases h
    | _ => simp [sbound] at h

theorem sbounds_le {len cap l h m : Nat} {low high mx : Option AVal} (hb : sbounds len cap low high mx = some (l, h, m)) (hlen : len ≤ cap) : l ≤ h ∧ m ≤ cap ∧ (len ≤ m → h ≤ m) := by
  unfold sbounds at hb
  split at hb
  · rename_i m' hm
    split at hb
    · rename_i h' hh
      split at hb
      · rename_i l' hl
        injection hb with hb
        injection hb with e1 e2
        injection e2 with e2 e3
        subst e1; subst e2; subst e3
        refine ⟨sbound_le hl (Nat.zero_le _), sbound_le hm (Nat.le_refl _), fun hle => ?_⟩
        split at hh
        · cases hh
        · exact sbound_le hh hle
      · cases hb
    · cases hb
  · cases hb

theorem extract_bytes (s : List UInt8) (l h : Nat) : (⟨s.toArray⟩ : ByteArray).extract l h = ⟨((s.drop l).take (h - l)).toArray⟩ := by
  apply ByteArray.ext
  simp [ByteArray.data_extract]

include hT in
theorem vslice_sound {t : TypeId} {x v : AVal} {lo hi mx : Option AVal} (h : vslice T t x lo hi mx = some v) (w : World) :
    (Instr.sliceAt t (cv x) (lo.map cv) (hi.map cv) (mx.map cv)).run P w = .ok (cv v) w := by
  unfold vslice at h
  split at h
  · rename_i i hti
    have hty := hT t i hti
    split at h
    · rename_i s hdesc
      have hu := hty.u hdesc (fun _ => desc_string)
      split at h
      · cases h
      · rename_i hmx
        split at h
        · rename_i l hh m hb
          injection h with h; subst h
          have hmx' : mx = none := by cases mx <;> simp_all
          subst hmx'
          have := sbounds_sound (P := P) hb false w
          have e1 : (⟨s.toArray⟩ : ByteArray).size = s.length := by simp [ByteArray.size]
          simp only [Option.map_none] at this
          simp only [Instr.sliceAt, Sem.run_bind, run_underlying hu, Result.andThen_ok, Instr.slice, cv, Option.map_none, Option.isSome_none, Bool.false_eq_true, if_false, e1, this, Sem.run_pure, extract_bytes]
        · cases h
    · rename_i e id p st off len cap hdesc
      have hu := hty.u hdesc (fun _ => desc_slice)
      split at h
      · rename_i ie hie
        split at h
        · rename_i l hh m hb
          injection h with h; subst h
          have := sbounds_sound (P := P) hb true w
          simp only [Instr.sliceAt, Sem.run_bind, run_underlying hu, Result.andThen_ok, Instr.slice, cv, this, (hT e ie hie).run_sizeOf, Sem.run_pure, Option.map_some, AId.addr_add]
          split <;> simp
        · cases h
      · cases h
    · rename_i e hdesc
      have hu := hty.u hdesc (fun _ => desc_slice)
      split at h
      · rename_i ie hie
        split at h
        · rename_i r hb
          injection h with h; subst h
          obtain ⟨l, hh, m⟩ := r
          have := sbounds_sound (P := P) hb true w
          have hz : l = 0 ∧ hh = 0 ∧ m = 0 := by
            obtain ⟨a1, a2, a3⟩ := sbounds_le hb (Nat.le_refl _)
            have := a3 (Nat.zero_le _)
            omega
          obtain ⟨rfl, rfl, rfl⟩ := hz
          simp [Instr.sliceAt, run_underlying hu, Instr.slice, cv, this, (hT e ie hie).run_sizeOf]
        · cases h
      · cases h
    · rename_i n e id p off hdesc
      have hu := hty.u hdesc (fun _ => desc_array)
      split at h
      · rename_i ie hie
        split at h
        · rename_i l hh m hb
          injection h with h; subst h
          have := sbounds_sound (P := P) hb false w
          simp only [Instr.sliceAt, Instr.sureAddr, Sem.run_bind, run_underlying hu, Result.andThen_ok, cv, this, (hT e ie hie).run_sizeOf, Sem.run_pure, AId.addr_add]
          split <;> simp
        · cases h
      · cases h
    · cases h
  · cases h

end
end Go.Esc
