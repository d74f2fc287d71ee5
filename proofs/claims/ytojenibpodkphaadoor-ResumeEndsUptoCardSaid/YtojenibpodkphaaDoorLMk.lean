import Derived.Test.YtojenibpodkphaaDoorLUh
/- Own work. Chapter 16: messages. -/
set_option linter.unusedSimpArgs false
set_option linter.unusedVariables false
set_option maxRecDepth 20000
namespace Go.Esc.M
open Go Go.Esc

structure MsgM where
  kind : Int
  id : Int
  amount : Int
  index : Int
  next : Int
  hash : List UInt8
  secret : List UInt8
  note : List UInt8
  deriving DecidableEq

def MsgM.cs (u : MsgM) : List AVal := [.int .i64 u.kind, .int .i64 u.id, .int .i64 u.amount, .int .i64 u.index, .int .i64 u.next, .agg (u.hash.map u8v), .agg (u.secret.map u8v), .str u.note]
def MsgM.av (u : MsgM) : AVal := .agg u.cs
def MsgM.zero : MsgM := ⟨0, 0, 0, 0, 0, h0, h0, []⟩
structure MsgM.ok (u : MsgM) : Prop where
  kind : I64 u.kind
  id : I64 u.id
  amount : I64 u.amount
  index : I64 u.index
  next : I64 u.next
  hash : u.hash.length = 32
  secret : u.secret.length = 32
  note : u.note.length ≤ 9223372036854775807
theorem MsgM.zero_ok : MsgM.zero.ok := ⟨i64_0, i64_0, i64_0, i64_0, i64_0, rfl, rfl, by decide⟩
theorem MsgM.sz {u : MsgM} (h : u.ok) : Esc.sz u.av = 70 := by simp [MsgM.av, MsgM.cs, Esc.sz, szs, szh h.hash, szh h.secret]
theorem MsgM.fits {u : MsgM} (h : u.ok) : vfits ti_api_Message u.av = true := by
  have h1 := MsgM.sz h
  have h2 : u.av.isAgg = true := rfl
  simp [vfits, h1, h2, ti_api_Message, ADesc.isAgg]
theorem MsgM.okv (u : MsgM) : Esc.okv u.av = true := by simp [MsgM.av, MsgM.cs, Esc.okv, okvs, okvs_u8]
theorem zMsg : z_api_Message = MsgM.zero.av := rfl

section
variable {F0 : List AId} {G0 G : Heap} {ps : List LP} {i : Nat} {id : AId} {u : MsgM} {Q : AVal → Heap → Prop}

theorem msg_load (hs : Sp F0 G0 ps G) (hi : ps[i]? = some (RowL id u.av)) (h : u.ok) :
    vload T G t_int (.ptr id [0] 0) = some (.int .i64 u.kind) ∧ vload T G t_int64 (.ptr id [1] 1) = some (.int .i64 u.id) ∧ vload T G t_int64 (.ptr id [2] 2) = some (.int .i64 u.amount) ∧ vload T G t_int64 (.ptr id [3] 3) = some (.int .i64 u.index) ∧
    vload T G t_int64 (.ptr id [4] 4) = some (.int .i64 u.next) ∧ vload T G t_api_Hash (.ptr id [5] 5) = some (.agg (u.hash.map u8v)) ∧ vload T G t_api_Hash (.ptr id [6] 37) = some (.agg (u.secret.map u8v)) ∧ vload T G t_string (.ptr id [7] 69) = some (.str u.note) ∧ vload T G t_api_Message (.ptr id [] 0) = some u.av := by
  have hg := RowL.own hs hi
  refine ⟨vload_fld (c := .int .i64 u.kind) hg rfl rfl rfl T_int rfl, vload_fld (c := .int .i64 u.id) hg rfl rfl rfl T_int64 rfl, vload_fld (c := .int .i64 u.amount) hg rfl rfl rfl T_int64 rfl, vload_fld (c := .int .i64 u.index) hg rfl rfl rfl T_int64 rfl, vload_fld (c := .int .i64 u.next) hg rfl rfl rfl T_int64 rfl,
    vload_fld (c := .agg (u.hash.map u8v)) hg rfl rfl rfl T_api_Hash (fits_hash h.hash), vload_fld (c := .agg (u.secret.map u8v)) hg rfl ?_ rfl T_api_Hash (fits_hash h.secret), vload_fld (c := .str u.note) hg rfl ?_ rfl T_string rfl, whole_load T_api_Message hg (MsgM.fits h)⟩
  · simp [MsgM.cs, szs, Esc.sz, szh h.hash]
  · simp [MsgM.cs, szs, Esc.sz, szh h.hash, szh h.secret]
theorem msg_store {u' : MsgM} (hs : Sp F0 G0 ps G) (hi : ps[i]? = some (RowL id u.av)) (h : u.ok) (h' : u'.ok) {K : Heap → Prop} (hK : ∀ G', Sp F0 G0 (ps.set i (RowL id u'.av)) G' → K G') : wg (vstore T G t_api_Message (.ptr id [] 0) u'.av) K := by
  refine wg_of (whole_store T_api_Message (RowL.own hs hi) (MsgM.fits h') (by rw [MsgM.sz h, MsgM.sz h']) (MsgM.okv _)) ?_
  exact hK _ (Sp.setRow hs hi _)
theorem msg_secret {n : List UInt8} (hn : n.length = 32) (h : u.ok) (hs : Sp F0 G0 ps G) (hi : ps[i]? = some (RowL id u.av)) {K : Heap → Prop} (hK : ∀ G', Sp F0 G0 (ps.set i (RowL id ({ u with secret := n } : MsgM).av)) G' → K G') : wg (vstore T G t_api_Hash (.ptr id [6] 37) (.agg (n.map u8v))) K := by
  refine wg_of (vstore_fld (c := .agg (n.map u8v)) (u := .agg (u.secret.map u8v)) (RowL.own hs hi) (by simp [MsgM.cs, szs, Esc.sz, szh h.hash]) rfl T_api_Hash (fits_hash hn) (by simp [Esc.sz, szh hn, szh h.secret]) (by simp [Esc.okv, okvs_u8])) ?_
  exact hK _ (Sp.setRow hs hi _)

def msgOf (u : UpdM) : MsgM := ⟨u.kind, u.id, u.amount, 0, 0, u.hash, h0, u.note⟩
theorem msgOf_ok {u : UpdM} (h : u.ok) : (msgOf u).ok := ⟨h.kind, h.id, h.amount, i64_0, i64_0, h.hash, rfl, h.note⟩
end
end Go.Esc.M

/- Own work. Chapter 16: messages written. -/
set_option linter.unusedSimpArgs false
set_option linter.unusedVariables false
set_option maxRecDepth 20000
namespace Go.Esc.M
open Go Go.Esc

section
variable {F0 : List AId} {G0 G : Heap} {ps : List LP} {i : Nat} {id : AId} {u : MsgM} {Q : AVal → Heap → Prop}

theorem fill8 {pl : Nat → Option (Nat × Nat)} (e0 : pl 0 = some (0, 1)) (e1 : pl 1 = some (1, 1)) (e2 : pl 2 = some (2, 1)) (e5 : pl 5 = some (5, 32)) (e7 : pl 7 = some (69, 1)) {k m n : Int} {s : List UInt8} {zh zs h : AVal} (hz : sz zh = 32) (hzs : sz zs = 32) (hh : sz h = 32) :
    fillA pl [.int .i64 0, .int .i64 0, .int .i64 0, .int .i64 0, .int .i64 0, zh, zs, .str []] [(0, .int .i64 k), (1, .int .i64 m), (2, .int .i64 n), (5, h), (7, .str s)] = some [.int .i64 k, .int .i64 m, .int .i64 n, .int .i64 0, .int .i64 0, h, zs, .str s] := by
  simp [fillA, e0, e1, e2, e5, e7, sz, szs, hh, hz, hzs]
theorem build_msg {u : UpdM} (h : u.ok) : vbuild T t_api_Message [(0, .int .i64 u.kind), (1, .int .i64 u.id), (2, .int .i64 u.amount), (5, .agg (u.hash.map u8v)), (7, .str u.note)] = some (msgOf u).av := by
  have h1 : sz (.agg (u.hash.map u8v)) = 32 := by rw [sz, szs_uni (n := 1) (uni_u8 u.hash)]; simp [h.hash]
  obtain ⟨zs, hzz, hzs⟩ : ∃ zs, AVal.agg (h0.map u8v) = zs ∧ sz zs = 32 := ⟨_, rfl, rfl⟩
  have hz : z_api_Message = .agg [.int .i64 0, .int .i64 0, .int .i64 0, .int .i64 0, .int .i64 0, zs, zs, .str []] := by rw [← hzz]; rfl
  have hf := fill8 (pl := places T [(t_int, 0), (t_int64, 1), (t_int64, 2), (t_int64, 3), (t_int64, 4), (t_api_Hash, 5), (t_api_Hash, 37), (t_string, 69)]) rfl rfl rfl rfl rfl (k := u.kind) (m := u.id) (n := u.amount) (s := u.note) hzs hzs h1
  have ha : [(t_int, 0), (t_int64, 1), (t_int64, 2), (t_int64, 3), (t_int64, 4), (t_api_Hash, 5), (t_api_Hash, 37), (t_string, 69)].all (fun g => (T g.1).isSome) = true := rfl
  unfold vbuild
  have e1 : ti_api_Message.desc = .struct [(t_int, 0), (t_int64, 1), (t_int64, 2), (t_int64, 3), (t_int64, 4), (t_api_Hash, 5), (t_api_Hash, 37), (t_string, 69)] := rfl
  have e2 : ti_api_Message.zero = .agg [.int .i64 0, .int .i64 0, .int .i64 0, .int .i64 0, .int .i64 0, zs, zs, .str []] := hz
  simp only [T_api_Message, e1, e2, ha, if_true, hf]
  simp only [msgOf, MsgM.av, MsgM.cs, hzz]

theorem msg_Of.use {u : UpdM} (h : u.ok) (hQ : ∀ G', Ch [] G [] G' → Q (msgOf u).av G') : ACalls P msg_Of.n [u.av] G Q := by
  refine msg_Of.sound ?_
  unfold msg_Of.S
  rw [zMsg]
  intro i1 f1
  have s1 := (Sp.nil G).row f1 u.av
  intro i3 f3
  have s3 := s1.row f3 MsgM.zero.av
  obtain ⟨l0, l1, l2, l3, l4, _⟩ := upd_load (i := 1) s3 rfl h
  refine wv_of l0 ?_
  refine wv_of l1 ?_
  refine wv_of l2 ?_
  refine wv_of l3 ?_
  refine wv_of l4 ?_
  refine wv_of (build_msg h) ?_
  refine msg_store (i := 0) s3 rfl MsgM.zero_ok (msgOf_ok h) fun G11 s11 => ?_
  refine wv_of (msg_load (i := 0) s11 rfl (msgOf_ok h)).2.2.2.2.2.2.2.2 ?_
  exact hQ _ s11.ch

end
end Go.Esc.M

/- Own work. Chapter 16: messages compared, named. -/
set_option linter.unusedSimpArgs false
set_option linter.unusedVariables false
set_option maxRecDepth 20000
namespace Go.Esc.M
open Go Go.Esc

theorem eqF_msg {p p' : MsgM} (h : p.ok) (h' : p'.ok) : eqF T (veqD T 8) [(t_int, 0), (t_int64, 1), (t_int64, 2), (t_int64, 3), (t_int64, 4), (t_api_Hash, 5), (t_api_Hash, 37), (t_string, 69)] p.cs p'.cs 0 = some (decide (p = p')) := by
  have z1 := fits_hash h.hash
  have z2 := fits_hash h'.hash
  have z3 := fits_hash h.secret
  have z4 := fits_hash h'.secret
  have q2 : ∀ m n : Int, veqD T 8 t_int64 (.int .i64 m) (.int .i64 n) = some (decide (m = n)) := fun m n => by
    rw [veqD]; simp only [T_int64]; rfl
  have q1 : ∀ m n : Int, veqD T 8 t_int (.int .i64 m) (.int .i64 n) = some (decide (m = n)) := fun m n => by
    rw [veqD]; simp only [T_int]; rfl
  have q4 : ∀ m n : List UInt8, veqD T 8 t_string (.str m) (.str n) = some (decide (m = n)) := fun m n => by
    rw [veqD]; simp only [T_string]; rfl
  have v1 : ∀ m : Int, vfits ti_int (.int .i64 m) = true := fun m => rfl
  have v2 : ∀ m : Int, vfits ti_int64 (.int .i64 m) = true := fun m => rfl
  have v4 : ∀ m : List UInt8, vfits ti_string (.str m) = true := fun m => rfl
  have s1 : ti_int.size = 1 := rfl
  have s2 : ti_int64.size = 1 := rfl
  have s3 : ti_api_Hash.size = 32 := rfl
  have q3 := veq_hash h.hash h'.hash
  have q5 := veq_hash h.secret h'.secret
  obtain ⟨a, b, c, d, e, f, g, i⟩ := p
  obtain ⟨a', b', c', d', e', f', g', i'⟩ := p'
  dsimp only at z1 z2 z3 z4 q3 q5
  simp only [MsgM.cs, eqF, T_int, T_int64, T_api_Hash, T_string, v1, v2, v4, z1, z2, z3, z4, s1, s2, s3, Nat.zero_add, q1, q2, q3, q4, q5, beq_self_eq_true, Bool.and_self, Nat.reduceAdd, if_true]
  by_cases h1 : a = a'
  · subst h1
    by_cases h2 : b = b'
    · subst h2
      by_cases h3 : c = c'
      · subst h3
        by_cases h4 : d = d'
        · subst h4
          by_cases h5 : e = e'
          · subst h5
            by_cases h6 : f = f'
            · subst h6
              by_cases h7 : g = g'
              · subst h7
                by_cases h8 : i = i'
                · subst h8; simp
                · simp [h8]
              · simp [h7]
            · simp [h6]
          · simp [h5]
        · simp [h4]
      · simp [h3]
    · simp [h2]
  · simp [h1]
theorem veq_msg {p p' : MsgM} (h : p.ok) (h' : p'.ok) : veqD T 9 t_api_Message p.av p'.av = some (decide (p = p')) := by
  rw [← eqF_msg h h', veqD]
  have e1 : ti_api_Message.desc = .struct [(t_int, 0), (t_int64, 1), (t_int64, 2), (t_int64, 3), (t_int64, 4), (t_api_Hash, 5), (t_api_Hash, 37), (t_string, 69)] := rfl
  simp only [T_api_Message, e1]
  rfl
theorem vbin_meql {p p' : MsgM} (h : p.ok) (h' : p'.ok) : vbin T .eql t_api_Message p.av p'.av = some (.bool (decide (p = p'))) := by
  have := veq_msg h h'
  unfold MsgM.av at this ⊢
  simp only [vbin, this]
theorem vbin_mneq {p p' : MsgM} (h : p.ok) (h' : p'.ok) : vbin T .neq t_api_Message p.av p'.av = some (.bool (!decide (p = p'))) := by
  have := veq_msg h h'
  unfold MsgM.av at this ⊢
  simp only [vbin, this]

section
variable {F0 : List AId} {G0 G : Heap} {ps : List LP} {Q : AVal → Heap → Prop}

end
end Go.Esc.M

/- Own work. Chapter 16: messages written, in the program. -/
set_option linter.unusedSimpArgs false
set_option linter.unusedVariables false
set_option maxRecDepth 20000
namespace Go.Esc.M
open Go Go.Esc

def isK (m : MsgM) : Prop := m.kind = 1 ∨ m.kind = 2 ∨ m.kind = 3
instance (m : MsgM) : Decidable (isK m) := inferInstanceAs (Decidable (_ ∨ _ ∨ _))
section
variable {F0 : List AId} {G0 G : Heap} {ps : List LP} {Q : AVal → Heap → Prop}

end
end Go.Esc.M

/- Own work. Chapter 16: messages written, in the document. -/
set_option linter.unusedSimpArgs false
set_option linter.unusedVariables false
set_option maxRecDepth 20000
namespace Go.Esc.M
open Go Go.Esc

section
variable {F0 : List AId} {G0 G : Heap} {ps : List LP} {Q : AVal → Heap → Prop}

end
end Go.Esc.M

/- Own work. Chapter 16: the document's bytes. -/
set_option linter.unusedSimpArgs false
set_option linter.unusedVariables false
set_option maxRecDepth 20000
namespace Go.Esc.M
open Go Go.Esc

section
variable {F0 : List AId} {G0 G : Heap} {ps : List LP} {Q : AVal → Heap → Prop}

end
end Go.Esc.M

/- Own work. Chapter 16: the document's numbers and hashes at a place. -/
set_option linter.unusedSimpArgs false
set_option linter.unusedVariables false
set_option maxRecDepth 20000
namespace Go.Esc.M
open Go Go.Esc

section
variable {F0 : List AId} {G0 G : Heap} {ps : List LP} {Q : AVal → Heap → Prop}

end
end Go.Esc.M

/- Own work. Chapter 16: what the document makes of bytes. -/
set_option linter.unusedSimpArgs false
set_option linter.unusedVariables false
set_option maxRecDepth 20000
namespace Go.Esc.M
open Go Go.Esc

end Go.Esc.M

/- Own work. Chapter 16: messages read, in the document. -/
set_option linter.unusedSimpArgs false
set_option linter.unusedVariables false
set_option maxRecDepth 20000
namespace Go.Esc.M
open Go Go.Esc

end Go.Esc.M

/- Own work. Chapter 16: messages read, in the document, walked. -/
set_option linter.unusedSimpArgs false
set_option linter.unusedVariables false
set_option maxRecDepth 20000
namespace Go.Esc.M
open Go Go.Esc

section
variable {F0 : List AId} {G0 G : Heap} {ps : List LP} {Q : AVal → Heap → Prop}

end
end Go.Esc.M

/- Own work. Chapter 16: what stands behind the kind, in the program. -/
set_option linter.unusedSimpArgs false
set_option linter.unusedVariables false
set_option maxRecDepth 20000
namespace Go.Esc.M
open Go Go.Esc

section
variable {F0 : List AId} {G0 G : Heap} {ps : List LP} {Q : AVal → Heap → Prop}

end
end Go.Esc.M
