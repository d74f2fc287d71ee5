import Derived.Test.YthaockalmnlceaaLUf
/- Own work. Chapter 16: messages. -/
set_option linter.unusedSimpArgs false
set_option linter.unusedVariables false
namespace Go.Esc.M
open Go Go.Esc

structure MsgM where
  kind : Int
  id : Int
  amount : Int
  index : Int
  next : Int
  hash : List UInt8
  secret : List UInt8
  note : List UInt8
  deriving DecidableEq

def MsgM.cs (u : MsgM) : List AVal := [.int .i64 u.kind, .int .i64 u.id, .int .i64 u.amount, .int .i64 u.index, .int .i64 u.next, .agg (u.hash.map u8v), .agg (u.secret.map u8v), .str u.note]
def MsgM.av (u : MsgM) : AVal := .agg u.cs
def MsgM.zero : MsgM := ⟨0, 0, 0, 0, 0, h0, h0, []⟩
structure MsgM.ok (u : MsgM) : Prop where
  kind : I64 u.kind
  id : I64 u.id
  amount : I64 u.amount
  index : I64 u.index
  next : I64 u.next
  hash : u.hash.length = 32
  secret : u.secret.length = 32
  note : u.note.length ≤ 9223372036854775807
theorem MsgM.zero_ok : MsgM.zero.ok := ⟨i64_0, i64_0, i64_0, i64_0, i64_0, rfl, rfl, by decide⟩
theorem MsgM.sz {u : MsgM} (h : u.ok) : Esc.sz u.av = 70 := by simp [MsgM.av, MsgM.cs, Esc.sz, szs, szh h.hash, szh h.secret]
theorem MsgM.fits {u : MsgM} (h : u.ok) : vfits ti_api_Message u.av = true := by
  have h1 := MsgM.sz h
  have h2 : u.av.isAgg = true := rfl
  simp [vfits, h1, h2, ti_api_Message, ADesc.isAgg]
theorem MsgM.okv (u : MsgM) : Esc.okv u.av = true := by simp [MsgM.av, MsgM.cs, Esc.okv, okvs, okvs_u8]
theorem zMsg : z_api_Message = MsgM.zero.av := rfl

section
variable {F0 : List AId} {G0 G : Heap} {ps : List LP} {i : Nat} {id : AId} {u : MsgM} {Q : AVal → Heap → Prop}

theorem msg_load (hs : Sp F0 G0 ps G) (hi : ps[i]? = some (RowL id u.av)) (h : u.ok) :
    vload T G t_int (.ptr id [0] 0) = some (.int .i64 u.kind) ∧ vload T G t_int64 (.ptr id [1] 1) = some (.int .i64 u.id) ∧ vload T G t_int64 (.ptr id [2] 2) = some (.int .i64 u.amount) ∧ vload T G t_int64 (.ptr id [3] 3) = some (.int .i64 u.index) ∧
    vload T G t_int64 (.ptr id [4] 4) = some (.int .i64 u.next) ∧ vload T G t_api_Hash (.ptr id [5] 5) = some (.agg (u.hash.map u8v)) ∧ vload T G t_api_Hash (.ptr id [6] 37) = some (.agg (u.secret.map u8v)) ∧ vload T G t_string (.ptr id [7] 69) = some (.str u.note) ∧ vload T G t_api_Message (.ptr id [] 0) = some u.av := by
  have hg := RowL.own hs hi
  refine ⟨vload_fld (c := .int .i64 u.kind) hg rfl rfl rfl T_int rfl, vload_fld (c := .int .i64 u.id) hg rfl rfl rfl T_int64 rfl, vload_fld (c := .int .i64 u.amount) hg rfl rfl rfl T_int64 rfl, vload_fld (c := .int .i64 u.index) hg rfl rfl rfl T_int64 rfl, vload_fld (c := .int .i64 u.next) hg rfl rfl rfl T_int64 rfl,
    vload_fld (c := .agg (u.hash.map u8v)) hg rfl rfl rfl T_api_Hash (fits_hash h.hash), vload_fld (c := .agg (u.secret.map u8v)) hg rfl ?_ rfl T_api_Hash (fits_hash h.secret), vload_fld (c := .str u.note) hg rfl ?_ rfl T_string rfl, whole_load T_api_Message hg (MsgM.fits h)⟩
  · simp [MsgM.cs, szs, Esc.sz, szh h.hash]
  · simp [MsgM.cs, szs, Esc.sz, szh h.hash, szh h.secret]
theorem msg_store {u' : MsgM} (hs : Sp F0 G0 ps G) (hi : ps[i]? = some (RowL id u.av)) (h : u.ok) (h' : u'.ok) {K : Heap → Prop} (hK : ∀ G', Sp F0 G0 (ps.set i (RowL id u'.av)) G' → K G') : wg (vstore T G t_api_Message (.ptr id [] 0) u'.av) K := by
  refine wg_of (whole_store T_api_Message (RowL.own hs hi) (MsgM.fits h') (by rw [MsgM.sz h, MsgM.sz h']) (MsgM.okv _)) ?_
  exact hK _ (Sp.setRow hs hi _)
theorem msg_index (n : Int) (hs : Sp F0 G0 ps G) (hi : ps[i]? = some (RowL id u.av)) {K : Heap → Prop} (hK : ∀ G', Sp F0 G0 (ps.set i (RowL id ({ u with index := n } : MsgM).av)) G' → K G') : wg (vstore T G t_int64 (.ptr id [3] 3) (.int .i64 n)) K := by
  refine wg_of (vstore_fld (c := .int .i64 n) (u := .int .i64 u.index) (RowL.own hs hi) rfl rfl T_int64 rfl rfl rfl) ?_
  exact hK _ (Sp.setRow hs hi _)
theorem msg_next (n : Int) (hs : Sp F0 G0 ps G) (hi : ps[i]? = some (RowL id u.av)) {K : Heap → Prop} (hK : ∀ G', Sp F0 G0 (ps.set i (RowL id ({ u with next := n } : MsgM).av)) G' → K G') : wg (vstore T G t_int64 (.ptr id [4] 4) (.int .i64 n)) K := by
  refine wg_of (vstore_fld (c := .int .i64 n) (u := .int .i64 u.next) (RowL.own hs hi) rfl rfl T_int64 rfl rfl rfl) ?_
  exact hK _ (Sp.setRow hs hi _)
theorem msg_hash {n : List UInt8} (hn : n.length = 32) (h : u.ok) (hs : Sp F0 G0 ps G) (hi : ps[i]? = some (RowL id u.av)) {K : Heap → Prop} (hK : ∀ G', Sp F0 G0 (ps.set i (RowL id ({ u with hash := n } : MsgM).av)) G' → K G') : wg (vstore T G t_api_Hash (.ptr id [5] 5) (.agg (n.map u8v))) K := by
  refine wg_of (vstore_fld (c := .agg (n.map u8v)) (u := .agg (u.hash.map u8v)) (RowL.own hs hi) rfl rfl T_api_Hash (fits_hash hn) (by simp [Esc.sz, szh hn, szh h.hash]) (by simp [Esc.okv, okvs_u8])) ?_
  exact hK _ (Sp.setRow hs hi _)
theorem msg_secret {n : List UInt8} (hn : n.length = 32) (h : u.ok) (hs : Sp F0 G0 ps G) (hi : ps[i]? = some (RowL id u.av)) {K : Heap → Prop} (hK : ∀ G', Sp F0 G0 (ps.set i (RowL id ({ u with secret := n } : MsgM).av)) G' → K G') : wg (vstore T G t_api_Hash (.ptr id [6] 37) (.agg (n.map u8v))) K := by
  refine wg_of (vstore_fld (c := .agg (n.map u8v)) (u := .agg (u.secret.map u8v)) (RowL.own hs hi) (by simp [MsgM.cs, szs, Esc.sz, szh h.hash]) rfl T_api_Hash (fits_hash hn) (by simp [Esc.sz, szh hn, szh h.secret]) (by simp [Esc.okv, okvs_u8])) ?_
  exact hK _ (Sp.setRow hs hi _)

def updOf (m : MsgM) : UpdM := ⟨m.kind, m.id, m.amount, m.hash, m.note⟩
def msgOf (u : UpdM) : MsgM := ⟨u.kind, u.id, u.amount, 0, 0, u.hash, h0, u.note⟩
def isUpd (m : MsgM) : Bool := decide (1 ≤ m.kind) && decide (m.kind ≤ 3)
def updM (m : MsgM) : UpdM × Bool := bif isUpd m then (updOf m, true) else (UpdM.zero, false)
theorem updOf_ok {m : MsgM} (h : m.ok) : (updOf m).ok := mkok h.kind h.id h.amount h.hash h.note
theorem msgOf_ok {u : UpdM} (h : u.ok) : (msgOf u).ok := ⟨h.kind, h.id, h.amount, i64_0, i64_0, h.hash, rfl, h.note⟩
theorem updM_ok {m : MsgM} (h : m.ok) : (updM m).1.ok := by
  unfold updM
  cases isUpd m
  · exact UpdM.zero_ok
  · exact updOf_ok h

theorem fill5 {pl : Nat → Option (Nat × Nat)} (e0 : pl 0 = some (0, 1)) (e1 : pl 1 = some (1, 1)) (e2 : pl 2 = some (2, 1)) (e3 : pl 3 = some (3, 32)) (e4 : pl 4 = some (35, 1)) {k m n : Int} {s : List UInt8} {zh h : AVal} (hz : sz zh = 32) (hh : sz h = 32) :
    fillA pl [.int .i64 0, .int .i64 0, .int .i64 0, zh, .str []] [(0, .int .i64 k), (1, .int .i64 m), (2, .int .i64 n), (3, h), (4, .str s)] = some [.int .i64 k, .int .i64 m, .int .i64 n, h, .str s] := by
  simp [fillA, e0, e1, e2, e3, e4, sz, szs, hh, hz]
theorem build_upd {u : UpdM} (h : u.ok) : vbuild T t_api_Update [(0, .int .i64 u.kind), (1, .int .i64 u.id), (2, .int .i64 u.amount), (3, .agg (u.hash.map u8v)), (4, .str u.note)] = some u.av := by
  have h1 : sz (.agg (u.hash.map u8v)) = 32 := by rw [sz, szs_uni (n := 1) (uni_u8 u.hash)]; simp [h.hash]
  obtain ⟨zh, hz, hzh⟩ : ∃ zh, z_api_Update = .agg [.int .i64 0, .int .i64 0, .int .i64 0, zh, .str []] ∧ sz zh = 32 := ⟨_, rfl, rfl⟩
  have hf := fill5 (pl := places T [(t_int, 0), (t_int64, 1), (t_int64, 2), (t_api_Hash, 3), (t_string, 35)]) rfl rfl rfl rfl rfl (k := u.kind) (m := u.id) (n := u.amount) (s := u.note) hzh h1
  have ha : [(t_int, 0), (t_int64, 1), (t_int64, 2), (t_api_Hash, 3), (t_string, 35)].all (fun g => (T g.1).isSome) = true := rfl
  unfold vbuild
  have e1 : ti_api_Update.desc = .struct [(t_int, 0), (t_int64, 1), (t_int64, 2), (t_api_Hash, 3), (t_string, 35)] := rfl
  have e2 : ti_api_Update.zero = .agg [.int .i64 0, .int .i64 0, .int .i64 0, zh, .str []] := hz
  simp only [T_api_Update, e1, e2, ha, if_true, hf]
  rfl

def tupUB (x : UpdM × Bool) : AVal := .tuple [x.1.av, .bool x.2]

theorem msg_Update.use {m : MsgM} (h : m.ok) (hQ : ∀ G', Ch [] G [] G' → Q (tupUB (updM m)) G') : ACalls P msg_Update.n [m.av] G Q := by
  refine msg_Update.sound ?_
  unfold msg_Update.S
  rw [zUpd]
  intro i1 f1
  have s1 := (Sp.nil G).row f1 m.av
  intro i3 f3
  have s3 := s1.row f3 UpdM.zero.av
  revert s3
  generalize Heap.upd _ i3 _ = G4
  intro s3 J22
  obtain ⟨l0, l1, l2, _, _, l5, _, l7, _⟩ := msg_load (i := 1) s3 rfl h
  unfold updM isUpd at hQ
  have bad : (decide (1 ≤ m.kind) && decide (m.kind ≤ 3)) = false → J22 (.bool true) G4 := by
    intro hb
    rw [hb] at hQ
    simp -zeta only [J22, brB_true]
    rw [build_none, wv_some]
    refine upd_store (i := 0) s3 rfl UpdM.zero_ok UpdM.zero_ok fun G12 s12 => ?_
    refine wv_of (upd_load (i := 0) s12 rfl UpdM.zero_ok).2.2.2.2.2 ?_
    exact hQ _ s12.ch
  have good : (decide (1 ≤ m.kind) && decide (m.kind ≤ 3)) = true → J22 (.bool false) G4 := by
    intro hb
    rw [hb] at hQ
    simp -zeta only [J22, brB_false]
    refine wv_of l0 ?_
    refine wv_of l1 ?_
    refine wv_of l2 ?_
    refine wv_of l5 ?_
    refine wv_of l7 ?_
    refine wv_of (build_upd (updOf_ok h)) ?_
    refine upd_store (i := 0) s3 rfl UpdM.zero_ok (updOf_ok h) fun G12 s12 => ?_
    refine wv_of (upd_load (i := 0) s12 rfl (updOf_ok h)).2.2.2.2.2 ?_
    exact hQ _ s12.ch
  rw [l0, wv_some, vbin_lss, wv_some, brB_dec]
  refine ⟨fun hk => bad (by rw [decide_eq_false (by omega), Bool.false_and]), fun hk => ?_⟩
  rw [wv_some, vbin_gtr, wv_some]
  by_cases h3 : 3 < m.kind
  · rw [decide_eq_true h3]
    exact bad (by rw [decide_eq_false (show ¬ m.kind ≤ 3 by omega), Bool.and_false])
  · rw [decide_eq_false h3]
    exact good (by rw [decide_eq_true (show 1 ≤ m.kind by omega), decide_eq_true (show m.kind ≤ 3 by omega), Bool.and_self])

end
end Go.Esc.M

/- Own work. Chapter 16: messages written. -/
set_option linter.unusedSimpArgs false
set_option linter.unusedVariables false
namespace Go.Esc.M
open Go Go.Esc

section
variable {F0 : List AId} {G0 G : Heap} {ps : List LP} {i : Nat} {id : AId} {u : MsgM} {Q : AVal → Heap → Prop}

theorem fill8 {pl : Nat → Option (Nat × Nat)} (e0 : pl 0 = some (0, 1)) (e1 : pl 1 = some (1, 1)) (e2 : pl 2 = some (2, 1)) (e5 : pl 5 = some (5, 32)) (e7 : pl 7 = some (69, 1)) {k m n : Int} {s : List UInt8} {zh zs h : AVal} (hz : sz zh = 32) (hzs : sz zs = 32) (hh : sz h = 32) :
    fillA pl [.int .i64 0, .int .i64 0, .int .i64 0, .int .i64 0, .int .i64 0, zh, zs, .str []] [(0, .int .i64 k), (1, .int .i64 m), (2, .int .i64 n), (5, h), (7, .str s)] = some [.int .i64 k, .int .i64 m, .int .i64 n, .int .i64 0, .int .i64 0, h, zs, .str s] := by
  simp [fillA, e0, e1, e2, e5, e7, sz, szs, hh, hz, hzs]
theorem build_msg {u : UpdM} (h : u.ok) : vbuild T t_api_Message [(0, .int .i64 u.kind), (1, .int .i64 u.id), (2, .int .i64 u.amount), (5, .agg (u.hash.map u8v)), (7, .str u.note)] = some (msgOf u).av := by
  have h1 : sz (.agg (u.hash.map u8v)) = 32 := by rw [sz, szs_uni (n := 1) (uni_u8 u.hash)]; simp [h.hash]
  obtain ⟨zs, hzz, hzs⟩ : ∃ zs, AVal.agg (h0.map u8v) = zs ∧ sz zs = 32 := ⟨_, rfl, rfl⟩
  have hz : z_api_Message = .agg [.int .i64 0, .int .i64 0, .int .i64 0, .int .i64 0, .int .i64 0, zs, zs, .str []] := by rw [← hzz]; rfl
  have hf := fill8 (pl := places T [(t_int, 0), (t_int64, 1), (t_int64, 2), (t_int64, 3), (t_int64, 4), (t_api_Hash, 5), (t_api_Hash, 37), (t_string, 69)]) rfl rfl rfl rfl rfl (k := u.kind) (m := u.id) (n := u.amount) (s := u.note) hzs hzs h1
  have ha : [(t_int, 0), (t_int64, 1), (t_int64, 2), (t_int64, 3), (t_int64, 4), (t_api_Hash, 5), (t_api_Hash, 37), (t_string, 69)].all (fun g => (T g.1).isSome) = true := rfl
  unfold vbuild
  have e1 : ti_api_Message.desc = .struct [(t_int, 0), (t_int64, 1), (t_int64, 2), (t_int64, 3), (t_int64, 4), (t_api_Hash, 5), (t_api_Hash, 37), (t_string, 69)] := rfl
  have e2 : ti_api_Message.zero = .agg [.int .i64 0, .int .i64 0, .int .i64 0, .int .i64 0, .int .i64 0, zs, zs, .str []] := hz
  simp only [T_api_Message, e1, e2, ha, if_true, hf]
  simp only [msgOf, MsgM.av, MsgM.cs, hzz]

theorem msg_Of.use {u : UpdM} (h : u.ok) (hQ : ∀ G', Ch [] G [] G' → Q (msgOf u).av G') : ACalls P msg_Of.n [u.av] G Q := by
  refine msg_Of.sound ?_
  unfold msg_Of.S
  rw [zMsg]
  intro i1 f1
  have s1 := (Sp.nil G).row f1 u.av
  intro i3 f3
  have s3 := s1.row f3 MsgM.zero.av
  obtain ⟨l0, l1, l2, l3, l4, _⟩ := upd_load (i := 1) s3 rfl h
  refine wv_of l0 ?_
  refine wv_of l1 ?_
  refine wv_of l2 ?_
  refine wv_of l3 ?_
  refine wv_of l4 ?_
  refine wv_of (build_msg h) ?_
  refine msg_store (i := 0) s3 rfl MsgM.zero_ok (msgOf_ok h) fun G11 s11 => ?_
  refine wv_of (msg_load (i := 0) s11 rfl (msgOf_ok h)).2.2.2.2.2.2.2.2 ?_
  exact hQ _ s11.ch

def rightI (n : Int) : Bool := decide (0 ≤ n) && decide (n ≤ maxIndex)
theorem msg_right.use {n : Int} (hQ : Q (.bool (rightI n)) G) : ACalls P msg_right.n [.int .i64 n] G Q := by
  refine msg_right.sound ?_
  unfold msg_right.S
  unfold rightI at hQ
  rw [vbin_geq, wv_some, brB_dec]
  refine ⟨fun h => ?_, fun h => by rwa [decide_eq_false h, Bool.false_and] at hQ⟩
  rw [decide_eq_true h, Bool.true_and] at hQ
  rw [vbin_leq, wv_some]
  exact hQ

end
end Go.Esc.M

/- Own work. Chapter 16: messages compared, named. -/
set_option linter.unusedSimpArgs false
set_option linter.unusedVariables false
namespace Go.Esc.M
open Go Go.Esc

theorem eqF_msg {p p' : MsgM} (h : p.ok) (h' : p'.ok) : eqF T (veqD T 8) [(t_int, 0), (t_int64, 1), (t_int64, 2), (t_int64, 3), (t_int64, 4), (t_api_Hash, 5), (t_api_Hash, 37), (t_string, 69)] p.cs p'.cs 0 = some (decide (p = p')) := by
  have z1 := fits_hash h.hash
  have z2 := fits_hash h'.hash
  have z3 := fits_hash h.secret
  have z4 := fits_hash h'.secret
  have q2 : ∀ m n : Int, veqD T 8 t_int64 (.int .i64 m) (.int .i64 n) = some (decide (m = n)) := fun m n => by
    rw [veqD]; simp only [T_int64]; rfl
  have q1 : ∀ m n : Int, veqD T 8 t_int (.int .i64 m) (.int .i64 n) = some (decide (m = n)) := fun m n => by
    rw [veqD]; simp only [T_int]; rfl
  have q4 : ∀ m n : List UInt8, veqD T 8 t_string (.str m) (.str n) = some (decide (m = n)) := fun m n => by
    rw [veqD]; simp only [T_string]; rfl
  have v1 : ∀ m : Int, vfits ti_int (.int .i64 m) = true := fun m => rfl
  have v2 : ∀ m : Int, vfits ti_int64 (.int .i64 m) = true := fun m => rfl
  have v4 : ∀ m : List UInt8, vfits ti_string (.str m) = true := fun m => rfl
  have s1 : ti_int.size = 1 := rfl
  have s2 : ti_int64.size = 1 := rfl
  have s3 : ti_api_Hash.size = 32 := rfl
  have q3 := veq_hash h.hash h'.hash
  have q5 := veq_hash h.secret h'.secret
  obtain ⟨a, b, c, d, e, f, g, i⟩ := p
  obtain ⟨a', b', c', d', e', f', g', i'⟩ := p'
  dsimp only at z1 z2 z3 z4 q3 q5
  simp only [MsgM.cs, eqF, T_int, T_int64, T_api_Hash, T_string, v1, v2, v4, z1, z2, z3, z4, s1, s2, s3, Nat.zero_add, q1, q2, q3, q4, q5, beq_self_eq_true, Bool.and_self, Nat.reduceAdd, if_true]
  by_cases h1 : a = a'
  · subst h1
    by_cases h2 : b = b'
    · subst h2
      by_cases h3 : c = c'
      · subst h3
        by_cases h4 : d = d'
        · subst h4
          by_cases h5 : e = e'
          · subst h5
            by_cases h6 : f = f'
            · subst h6
              by_cases h7 : g = g'
              · subst h7
                by_cases h8 : i = i'
                · subst h8; simp
                · simp [h8]
              · simp [h7]
            · simp [h6]
          · simp [h5]
        · simp [h4]
      · simp [h3]
    · simp [h2]
  · simp [h1]
theorem veq_msg {p p' : MsgM} (h : p.ok) (h' : p'.ok) : veqD T 9 t_api_Message p.av p'.av = some (decide (p = p')) := by
  rw [← eqF_msg h h', veqD]
  have e1 : ti_api_Message.desc = .struct [(t_int, 0), (t_int64, 1), (t_int64, 2), (t_int64, 3), (t_int64, 4), (t_api_Hash, 5), (t_api_Hash, 37), (t_string, 69)] := rfl
  simp only [T_api_Message, e1]
  rfl
theorem vbin_meql {p p' : MsgM} (h : p.ok) (h' : p'.ok) : vbin T .eql t_api_Message p.av p'.av = some (.bool (decide (p = p'))) := by
  have := veq_msg h h'
  unfold MsgM.av at this ⊢
  simp only [vbin, this]
theorem vbin_mneq {p p' : MsgM} (h : p.ok) (h' : p'.ok) : vbin T .neq t_api_Message p.av p'.av = some (.bool (!decide (p = p'))) := by
  have := veq_msg h h'
  unfold MsgM.av at this ⊢
  simp only [vbin, this]

/-- The message with the fields alone that its kind names. -/
def namedM (m : MsgM) : MsgM × Bool :=
  if m.kind = 1 ∨ m.kind = 2 ∨ m.kind = 3 then (msgOf (updOf m), true)
  else if m.kind = 4 then (⟨m.kind, 0, 0, m.index, 0, m.hash, h0, []⟩, true)
  else if m.kind = 5 then (⟨m.kind, 0, 0, m.index, 0, m.hash, m.secret, []⟩, true)
  else if m.kind = 6 then (⟨m.kind, 0, 0, m.index, m.next, h0, m.secret, []⟩, true)
  else if m.kind = 7 then (⟨m.kind, 0, 0, m.index, 0, h0, h0, []⟩, true)
  else (MsgM.zero, false)
theorem namedM_ok {m : MsgM} (h : m.ok) : (namedM m).1.ok := by
  unfold namedM
  have h64 : ∀ x : Int, I64 x → I64 x := fun _ h => h
  split
  · exact msgOf_ok (updOf_ok h)
  split
  · exact ⟨h.kind, i64_0, i64_0, h.index, i64_0, h.hash, rfl, by simp⟩
  split
  · exact ⟨h.kind, i64_0, i64_0, h.index, i64_0, h.hash, h.secret, by simp⟩
  split
  · exact ⟨h.kind, i64_0, i64_0, h.index, h.next, rfl, h.secret, by simp⟩
  split
  · exact ⟨h.kind, i64_0, i64_0, h.index, i64_0, rfl, rfl, by simp⟩
  · exact MsgM.zero_ok

section
variable {F0 : List AId} {G0 G : Heap} {ps : List LP} {Q : AVal → Heap → Prop}

def tupMB (x : MsgM × Bool) : AVal := .tuple [x.1.av, .bool x.2]
theorem build_ki {k i : Int} : vbuild T t_api_Message [(0, .int .i64 k), (3, .int .i64 i)] = some (⟨k, 0, 0, i, 0, h0, h0, []⟩ : MsgM).av := rfl
theorem build_none_m : vbuild T t_api_Message [] = some MsgM.zero.av := rfl

set_option maxHeartbeats 2000000 in
theorem msg_named.use {m : MsgM} (h : m.ok) (hQ : ∀ G', Ch [] G [] G' → Q (tupMB (namedM m)) G') : ACalls P msg_named.n [m.av] G Q := by
  refine msg_named.sound ?_
  unfold msg_named.S
  rw [zMsg, zUpd]
  intro i1 f1
  have s1 := (Sp.nil G).row f1 m.av
  intro i3 f3
  have s3 := s1.row f3 MsgM.zero.av
  refine wv_of (msg_load (i := 1) s3 rfl h).1 ?_
  refine wv_of (msg_load (i := 1) s3 rfl h).2.2.2.1 ?_
  rw [build_ki, wv_some]
  intro i8 f8
  have s8 := s3.row f8 MsgM.zero.av
  have hn0 : (⟨m.kind, 0, 0, m.index, 0, h0, h0, []⟩ : MsgM).ok := ⟨h.kind, i64_0, i64_0, h.index, i64_0, rfl, rfl, by simp⟩
  refine msg_store (i := 0) s8 rfl MsgM.zero_ok hn0 fun G10 s10 => ?_
  have s10 : Sp [] G [RowL i8 (⟨m.kind, 0, 0, m.index, 0, h0, h0, []⟩ : MsgM).av, RowL i3 MsgM.zero.av, RowL i1 m.av] G10 := s10
  refine wv_of (msg_load (i := 2) s10 rfl h).1 ?_
  intro J58
  have h58 : ∀ G' (n : MsgM), Sp [] G [RowL i8 n.av, RowL i3 MsgM.zero.av, RowL i1 m.av] G' → n.ok → namedM m = (n, true) → J58 G' := by
    intro G54 n hs hn he
    simp -zeta only [J58]
    refine wv_of (msg_load (i := 0) hs rfl hn).2.2.2.2.2.2.2.2 ?_
    refine msg_store (i := 1) hs rfl MsgM.zero_ok hn fun G56 s56 => ?_
    refine wv_of (msg_load (i := 1) s56 rfl hn).2.2.2.2.2.2.2.2 ?_
    have := hQ _ s56.ch
    rwa [he] at this
  refine wv_of (v := .bool (decide (m.kind = 1))) (by rw [vbin_eql]) ?_
  intro J53
  have up : (m.kind = 1 ∨ m.kind = 2 ∨ m.kind = 3) → J53 (.bool true) G10 := by
    intro hk
    simp -zeta only [J53, brB_true]
    refine wv_of (msg_load (i := 2) s10 rfl h).2.2.2.2.2.2.2.2 ?_
    refine msg_Update.use h fun G21 c21 => ?_
    have s21 := s10.tmp c21
    have hu : updM m = (updOf m, true) := by
      unfold updM isUpd
      rw [decide_eq_true (show 1 ≤ m.kind by omega), decide_eq_true (show m.kind ≤ 3 by omega)]
      rfl
    rw [hu]
    refine wv_of (v := (updOf m).av) rfl ?_
    refine wv_of (v := .bool true) rfl ?_
    intro i24 f24
    have s24 := s21.row f24 UpdM.zero.av
    refine upd_store (i := 0) s24 rfl UpdM.zero_ok (updOf_ok h) fun G26 s26 => ?_
    refine wv_of (upd_load (i := 0) s26 rfl (updOf_ok h)).2.2.2.2.2 ?_
    refine msg_Of.use (updOf_ok h) fun G29 c29 => ?_
    have s29 := s26.tmp c29
    refine msg_store (i := 2) s29 rfl MsgM.zero_ok (msgOf_ok (updOf_ok h)) fun G30 s30 => ?_
    refine wv_of (msg_load (i := 2) s30 rfl (msgOf_ok (updOf_ok h))).2.2.2.2.2.2.2.2 ?_
    have := hQ _ s30.ch
    unfold namedM at this
    rwa [if_pos hk] at this
  have rest : ¬ (m.kind = 1 ∨ m.kind = 2 ∨ m.kind = 3) → J53 (.bool false) G10 := by
    intro hk
    simp -zeta only [J53, brB_false]
    obtain ⟨l0, l1, l2, l3, l4, l5, l6, l7, l8⟩ := msg_load (i := 2) s10 rfl h
    have hne : namedM m = if m.kind = 4 then (⟨m.kind, 0, 0, m.index, 0, m.hash, h0, []⟩, true)
      else if m.kind = 5 then (⟨m.kind, 0, 0, m.index, 0, m.hash, m.secret, []⟩, true)
      else if m.kind = 6 then (⟨m.kind, 0, 0, m.index, m.next, h0, m.secret, []⟩, true)
      else if m.kind = 7 then (⟨m.kind, 0, 0, m.index, 0, h0, h0, []⟩, true)
      else (MsgM.zero, false) := by
      unfold namedM
      rw [if_neg hk]
    rw [vbin_eql, wv_some, brB_dec]
    refine ⟨fun hk4 => ?_, fun hk4 => ?_⟩
    · rw [if_pos hk4] at hne
      refine wv_of l5 ?_
      refine msg_hash h.hash hn0 (i := 0) s10 rfl fun G34 s34 => ?_
      exact h58 _ ⟨m.kind, 0, 0, m.index, 0, m.hash, h0, []⟩ s34 ⟨h.kind, i64_0, i64_0, h.index, i64_0, h.hash, rfl, by simp⟩ hne
    rw [if_neg hk4] at hne
    rw [vbin_eql, wv_some, brB_dec]
    refine ⟨fun hk5 => ?_, fun hk5 => ?_⟩
    · rw [if_pos hk5] at hne
      refine wv_of l6 ?_
      refine wv_of l5 ?_
      refine msg_secret h.secret hn0 (i := 0) s10 rfl fun G38 s38 => ?_
      refine ⟨⟨(msg_load (i := 2) s38 rfl h).2.2.2.2.2.1, trivial⟩, ?_⟩
      refine msg_hash (u := ⟨m.kind, 0, 0, m.index, 0, h0, m.secret, []⟩) h.hash ⟨h.kind, i64_0, i64_0, h.index, i64_0, rfl, h.secret, by simp⟩ (i := 0) s38 rfl fun G39 s39 => ?_
      exact h58 _ ⟨m.kind, 0, 0, m.index, 0, m.hash, m.secret, []⟩ s39 ⟨h.kind, i64_0, i64_0, h.index, i64_0, h.hash, h.secret, by simp⟩ hne
    rw [if_neg hk5] at hne
    rw [vbin_eql, wv_some, brB_dec]
    refine ⟨fun hk6 => ?_, fun hk6 => ?_⟩
    · rw [if_pos hk6] at hne
      refine wv_of l4 ?_
      refine wv_of l6 ?_
      refine msg_next _ (i := 0) s10 rfl fun G43 s43 => ?_
      refine ⟨⟨(msg_load (i := 2) s43 rfl h).2.2.2.2.2.2.1, trivial⟩, ?_⟩
      refine msg_secret (u := ⟨m.kind, 0, 0, m.index, m.next, h0, h0, []⟩) h.secret ⟨h.kind, i64_0, i64_0, h.index, h.next, rfl, rfl, by simp⟩ (i := 0) s43 rfl fun G44 s44 => ?_
      exact h58 _ ⟨m.kind, 0, 0, m.index, m.next, h0, m.secret, []⟩ s44 ⟨h.kind, i64_0, i64_0, h.index, h.next, rfl, h.secret, by simp⟩ hne
    rw [if_neg hk6] at hne
    rw [vbin_eql, wv_some, brB_dec]
    refine ⟨fun hk7 => ?_, fun hk7 => ?_⟩
    · rw [if_pos hk7] at hne
      exact h58 _ _ s10 hn0 hne
    rw [if_neg hk7] at hne
    rw [build_none_m, wv_some]
    refine msg_store (i := 1) s10 rfl MsgM.zero_ok MsgM.zero_ok fun G47 s47 => ?_
    refine wv_of (msg_load (i := 1) s47 rfl MsgM.zero_ok).2.2.2.2.2.2.2.2 ?_
    have := hQ _ s47.ch
    rwa [hne] at this
  by_cases h1 : m.kind = 1
  · rw [decide_eq_true h1, brB_true]
    exact up (.inl h1)
  rw [decide_eq_false h1, brB_false, vbin_eql, wv_some]
  by_cases h2 : m.kind = 2
  · rw [decide_eq_true h2, brB_true]
    exact up (.inr (.inl h2))
  rw [decide_eq_false h2, brB_false, vbin_eql, wv_some]
  by_cases h3 : m.kind = 3
  · rw [decide_eq_true h3]
    exact up (.inr (.inr h3))
  · rw [decide_eq_false h3]
    exact rest (by omega)

end
end Go.Esc.M
