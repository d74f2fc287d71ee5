import Derived.Test.YtojenibpodkphaaDoorLUc
import Derived.Test.YtojenibpodkphaaDoorLDg
import Derived.Test.YtojenibpodkphaaDoorLSb
import Derived.Test.YtojenibpodkphaaDoorLHd
/- Own work. Chapter 12: updates read, in the document. -/
set_option linter.unusedSimpArgs false
set_option linter.unusedVariables false
set_option maxRecDepth 20000
namespace Go.Esc.M
open Go Go.Esc

section
variable {F0 : List AId} {G0 G : Heap} {ps : List LP} {Q : AVal → Heap → Prop}

end
end Go.Esc.M

/- Own work. Chapter 12: finds; adds; UpdateBytes. -/
set_option linter.unusedSimpArgs false
set_option linter.unusedVariables false
set_option maxRecDepth 20000
namespace Go.Esc.M
open Go Go.Esc

def addsU (l : List UpdM) : Nat := (l.filter (fun u => decide (u.kind = 1))).length
section
variable {F0 : List AId} {G0 G : Heap} {ps : List LP} {Q : AVal → Heap → Prop}

theorem upd_at {v : AVal} {l : List UpdM} {j : Nat} {u : UpdM} (h : IsSl 36 G v (l.map UpdM.av)) (hj : l[j]? = some u) : ∃ a, viaddr T t_sl_api_Update v (.int .i64 (j : Int)) = some a ∧ vload T G t_api_Update a = some u.av :=
  h.at_ (k := .i64) (i := ti_sl_api_Update) (ie := ti_api_Update) (T := T) (t := t_sl_api_Update) (e := t_api_Update) T_sl_api_Update rfl T_api_Update (by rw [List.getElem?_map, hj]; rfl) rfl
theorem upd_len {v : AVal} {l : List UpdM} (h : IsSl 36 G v (l.map UpdM.av)) : vlen T G t_sl_api_Update v = some (.int .i64 (l.length : Nat)) := by
  rw [h.len (i := ti_sl_api_Update) T_sl_api_Update rfl, List.length_map]
theorem newU {u : UpdM} {K : AId → Heap → Prop} (hs : Sp F0 G0 ps G) (hu : u.ok) (hK : ∀ i G', Sp F0 G0 (RowL i u.av :: ps) G' → K i G') : aNew G (.own z_api_Update) fun i G2 => wg (vstore T G2 t_api_Update (.ptr i [] 0) u.av) fun G3 => K i G3 :=
  newVal hs T_api_Update (UpdM.fits hu) (by rw [UpdM.sz hu]; rfl) (UpdM.okv u) hK

end
end Go.Esc.M

/- Own work. Chapter 12: the document's examples; UpdateBytes. -/
set_option linter.unusedSimpArgs false
set_option linter.unusedVariables false
set_option maxRecDepth 20000
namespace Go.Esc.M
open Go Go.Esc

theorem eqF_upd {p p' : UpdM} (h : p.ok) (h' : p'.ok) : eqF T (veqD T 8) [(t_int, 0), (t_int64, 1), (t_int64, 2), (t_api_Hash, 3), (t_string, 35)] p.cs p'.cs 0 = some (decide (p = p')) := by
  have z1 := fits_hash h.hash
  have z2 := fits_hash h'.hash
  have q2 : ∀ m n : Int, veqD T 8 t_int64 (.int .i64 m) (.int .i64 n) = some (decide (m = n)) := fun m n => by
    rw [veqD]; simp only [T_int64]; rfl
  have q1 : ∀ m n : Int, veqD T 8 t_int (.int .i64 m) (.int .i64 n) = some (decide (m = n)) := fun m n => by
    rw [veqD]; simp only [T_int]; rfl
  have q4 : ∀ m n : List UInt8, veqD T 8 t_string (.str m) (.str n) = some (decide (m = n)) := fun m n => by
    rw [veqD]; simp only [T_string]; rfl
  have v1 : ∀ m : Int, vfits ti_int (.int .i64 m) = true := fun m => rfl
  have v2 : ∀ m : Int, vfits ti_int64 (.int .i64 m) = true := fun m => rfl
  have v4 : ∀ m : List UInt8, vfits ti_string (.str m) = true := fun m => rfl
  have s1 : ti_int.size = 1 := rfl
  have s2 : ti_int64.size = 1 := rfl
  have s3 : ti_api_Hash.size = 32 := rfl
  have q3 := veq_hash h.hash h'.hash
  obtain ⟨a, b, c, d, e⟩ := p
  obtain ⟨a', b', c', d', e'⟩ := p'
  dsimp only at z1 z2 q3
  simp only [UpdM.cs, eqF, T_int, T_int64, T_api_Hash, T_string, v1, v2, v4, z1, z2, s1, s2, s3, Nat.zero_add, q1, q2, q3, q4, beq_self_eq_true, Bool.and_self, Nat.reduceAdd, if_true]
  by_cases h1 : a = a'
  · subst h1
    by_cases h2 : b = b'
    · subst h2
      by_cases h3 : c = c'
      · subst h3
        by_cases h4 : d = d'
        · subst h4
          by_cases h5 : e = e'
          · subst h5; simp
          · simp [h5]
        · simp [h4]
      · simp [h3]
    · simp [h2]
  · simp [h1]

theorem veq_upd {p p' : UpdM} (h : p.ok) (h' : p'.ok) : veqD T 9 t_api_Update p.av p'.av = some (decide (p = p')) := by
  rw [← eqF_upd h h', veqD]
  have e1 : ti_api_Update.desc = .struct [(t_int, 0), (t_int64, 1), (t_int64, 2), (t_api_Hash, 3), (t_string, 35)] := rfl
  simp only [T_api_Update, e1]
  rfl
theorem vbin_uneq {p p' : UpdM} (h : p.ok) (h' : p'.ok) : vbin T .neq t_api_Update p.av p'.av = some (.bool (!decide (p = p'))) := by
  have := veq_upd h h'
  unfold UpdM.av at this ⊢
  simp only [vbin, this]

section
variable {F0 : List AId} {G0 G : Heap} {ps : List LP} {Q : AVal → Heap → Prop}


end

end Go.Esc.M

/- Own work. Chapter 12: UpdateBack. -/
set_option linter.unusedSimpArgs false
set_option linter.unusedVariables false
set_option maxRecDepth 20000
namespace Go.Esc.M
open Go Go.Esc

end Go.Esc.M

/- Own work. Chapter 12: the document's finds; Next. -/
set_option linter.unusedSimpArgs false
set_option linter.unusedVariables false
set_option maxRecDepth 20000
namespace Go.Esc.M
open Go Go.Esc

section
variable {F0 : List AId} {G0 G : Heap} {ps : List LP} {Q : AVal → Heap → Prop}

theorem length_sha' (s : List UInt8) : (sha s).length = 32 := length_sha s

end
end Go.Esc.M
