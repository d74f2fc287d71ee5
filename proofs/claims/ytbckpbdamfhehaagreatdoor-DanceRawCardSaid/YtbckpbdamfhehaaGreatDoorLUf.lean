import Derived.Test.YtbckpbdamfhehaaGreatDoorLRS
import Derived.Test.YtbckpbdamfhehaaGreatDoorLDg
import Derived.Test.YtbckpbdamfhehaaGreatDoorLCx
/- Printed by gen_struct.py (own work): the struct Record in a row. -/
set_option linter.unusedSimpArgs false
set_option linter.unusedVariables false
set_option maxRecDepth 20000
namespace Go.Esc.M
open Go Go.Esc

/-! ### Record -/
structure RcM where
  kind : Int
  upd : UpdM
  index : Int
  cntA : Int
  cntB : Int
  sig : List UInt8
  secret : List UInt8
  point : List UInt8
  code : Int
  deriving DecidableEq
def RcM.cs (s : RcM) (v_upds : AVal) : List AVal := [.int .i64 s.kind, s.upd.av, v_upds, .int .i64 s.index, .agg [.int .i64 s.cntA, .int .i64 s.cntB], .agg (s.sig.map u8v), .agg (s.secret.map u8v), .agg (s.point.map u8v), .int .i64 s.code]
def RcM.av (s : RcM) (v_upds : AVal) : AVal := .agg (s.cs v_upds)
structure RcM.ok (s : RcM) : Prop where
  kind : I64 s.kind
  upd : s.upd.ok
  index : I64 s.index
  cntA : I64 s.cntA
  cntB : I64 s.cntB
  sig : s.sig.length = 32
  secret : s.secret.length = 32
  point : s.point.length = 32
  code : I64 s.code
theorem RcM.szl {s : RcM} {v_upds : AVal} (h : s.ok) (l : Leaf v_upds) : (s.cs v_upds).map Esc.sz = [1, 36, 1, 1, 2, 32, 32, 32, 1] := by
  simp [RcM.cs, Esc.sz, szs, UpdM.sz h.upd, szh h.sig, szh h.secret, szh h.point, l.1]
theorem RcM.sz {s : RcM} {v_upds : AVal} (h : s.ok) (l : Leaf v_upds) : Esc.sz (s.av v_upds) = 138 := by
  have e := RcM.szl h l
  rw [RcM.av, Esc.sz, szs_map, e]; rfl
theorem RcM.fits {s : RcM} {v_upds : AVal} (h : s.ok) (l : Leaf v_upds) : vfits ti_api_Record (s.av v_upds) = true := by
  have h1 := RcM.sz h l
  have h2 : (s.av v_upds).isAgg = true := rfl
  simp [vfits, h1, h2, ti_api_Record, ADesc.isAgg]
theorem RcM.okv {s : RcM} {v_upds : AVal} (l : Leaf v_upds) : Esc.okv (s.av v_upds) = true := by
  simp [RcM.av, RcM.cs, Esc.okv, okvs, okvs_u8, l.2.2, UpdM.okv _]
section
variable {F0 : List AId} {G0 G : Heap} {ps : List LP} {i : Nat} {id : AId} {s : RcM} {K : Heap → Prop} {v_upds : AVal} 
theorem Rc.ld_kind (hg : G id = some (.own (s.av v_upds))) (h : s.ok) (l : Leaf v_upds) : vload T G t_int (.ptr id [0] 0) = some (.int .i64 s.kind) := ld1 hg (RcM.szl h l) rfl rfl T_int rfl
theorem Rc.ld_upd (hg : G id = some (.own (s.av v_upds))) (h : s.ok) (l : Leaf v_upds) : vload T G t_api_Update (.ptr id [1] 1) = some (s.upd.av) := ld1 hg (RcM.szl h l) rfl rfl T_api_Update (UpdM.fits h.upd)
theorem Rc.ld (hg : G id = some (.own (s.av v_upds))) (h : s.ok) (l : Leaf v_upds) : vload T G t_api_Record (.ptr id [] 0) = some (s.av v_upds) := whole_load T_api_Record hg (RcM.fits h l)
theorem Rc.st (hs : Sp F0 G0 ps G) (hi : ps[i]? = some (RowL id (s.av v_upds))) (h : s.ok) (l : Leaf v_upds) {s' : RcM} {w_upds : AVal} (h' : s'.ok) (m : Leaf w_upds) (hK : ∀ G', Sp F0 G0 (ps.set i (RowL id (s'.av w_upds))) G' → K G') : wg (vstore T G t_api_Record (.ptr id [] 0) (s'.av w_upds)) K :=
  wg_of (whole_store T_api_Record (RowL.own hs hi) (RcM.fits h' m) (by rw [RcM.sz h l, RcM.sz h' m]) (RcM.okv m)) (hK _ (Sp.setRow hs hi _))
theorem Rc.nw {s' : RcM} {w_upds : AVal} (hs : Sp F0 G0 ps G) (h' : s'.ok) (m : Leaf w_upds) {K : AId → Heap → Prop} (hK : ∀ i G', Sp F0 G0 (RowL i (s'.av w_upds) :: ps) G' → K i G') : aNew G (.own z_api_Record) fun i G2 => wg (vstore T G2 t_api_Record (.ptr i [] 0) (s'.av w_upds)) fun G3 => K i G3 :=
  newVal hs T_api_Record (RcM.fits h' m) (by rw [RcM.sz h' m]; rfl) (RcM.okv m) hK
end

end Go.Esc.M

/- Printed by gen_struct.py (own work): the struct Config in a row. -/
set_option linter.unusedSimpArgs false
set_option linter.unusedVariables false
set_option maxRecDepth 20000
namespace Go.Esc.M
open Go Go.Esc

/-! ### Config -/
structure CfM where
  side : Int
  cap : Int
  ours : Int
  seed : List UInt8
  key : List UInt8
  pkey : List UInt8
  ptsA : List UInt8
  ptsB : List UInt8
  seg : Int
def CfM.cs (s : CfM) : List AVal := [.int .i64 s.side, .int .i64 s.cap, .int .i64 s.ours, .agg (s.seed.map u8v), .agg (s.key.map u8v), .agg (s.pkey.map u8v), .agg [.agg (s.ptsA.map u8v), .agg (s.ptsB.map u8v)], .int .i64 s.seg]
def CfM.av (s : CfM) : AVal := .agg (s.cs )
structure CfM.ok (s : CfM) : Prop where
  side : I64 s.side
  cap : I64 s.cap
  ours : I64 s.ours
  seed : s.seed.length = 32
  key : s.key.length = 32
  pkey : s.pkey.length = 32
  ptsA : s.ptsA.length = 32
  ptsB : s.ptsB.length = 32
  seg : I64 s.seg
theorem CfM.szl {s : CfM} (h : s.ok) : (s.cs ).map Esc.sz = [1, 1, 1, 32, 32, 32, 64, 1] := by
  simp [CfM.cs, Esc.sz, szs, szh h.seed, szh h.key, szh h.pkey, szh h.ptsA, szh h.ptsB]
theorem CfM.sz {s : CfM} (h : s.ok) : Esc.sz (s.av ) = 164 := by
  have e := CfM.szl h 
  rw [CfM.av, Esc.sz, szs_map, e]; rfl
theorem CfM.fits {s : CfM} (h : s.ok) : vfits ti_api_Config (s.av ) = true := by
  have h1 := CfM.sz h 
  have h2 : (s.av ).isAgg = true := rfl
  simp [vfits, h1, h2, ti_api_Config, ADesc.isAgg]
theorem CfM.okv {s : CfM} : Esc.okv (s.av ) = true := by
  simp [CfM.av, CfM.cs, Esc.okv, okvs, okvs_u8]
section
variable {F0 : List AId} {G0 G : Heap} {ps : List LP} {i : Nat} {id : AId} {s : CfM} {K : Heap → Prop} 
theorem Cf.ld_side (hg : G id = some (.own (s.av ))) (h : s.ok) : vload T G t_int (.ptr id [0] 0) = some (.int .i64 s.side) := ld1 hg (CfM.szl h ) rfl rfl T_int rfl
theorem Cf.ld_cap (hg : G id = some (.own (s.av ))) (h : s.ok) : vload T G t_int64 (.ptr id [1] 1) = some (.int .i64 s.cap) := ld1 hg (CfM.szl h ) rfl rfl T_int64 rfl
theorem Cf.ld_ours (hg : G id = some (.own (s.av ))) (h : s.ok) : vload T G t_int64 (.ptr id [2] 2) = some (.int .i64 s.ours) := ld1 hg (CfM.szl h ) rfl rfl T_int64 rfl
theorem Cf.ld_seed (hg : G id = some (.own (s.av ))) (h : s.ok) : vload T G t_api_Hash (.ptr id [3] 3) = some (.agg (s.seed.map u8v)) := ld1 hg (CfM.szl h ) rfl rfl T_api_Hash (fits_hash h.seed)
theorem Cf.ld_key (hg : G id = some (.own (s.av ))) (h : s.ok) : vload T G t_api_Hash (.ptr id [4] 35) = some (.agg (s.key.map u8v)) := ld1 hg (CfM.szl h ) rfl rfl T_api_Hash (fits_hash h.key)
theorem Cf.ld_pkey (hg : G id = some (.own (s.av ))) (h : s.ok) : vload T G t_api_Hash (.ptr id [5] 67) = some (.agg (s.pkey.map u8v)) := ld1 hg (CfM.szl h ) rfl rfl T_api_Hash (fits_hash h.pkey)
theorem Cf.ld_pts (hg : G id = some (.own (s.av ))) (h : s.ok) : vload T G t_ar2_api_Hash (.ptr id [6] 99) = some (hash2V s.ptsA s.ptsB) := ld1 hg (CfM.szl h ) rfl rfl T_ar2_api_Hash (fits_hash2 h.ptsA h.ptsB)
theorem Cf.ld_ptsA (hg : G id = some (.own (s.av ))) (h : s.ok) : vload T G t_api_Hash (.ptr id [6, 0] 99) = some (.agg (s.ptsA.map u8v)) := ld2 hg (CfM.szl h ) rfl rfl (ss2 := [32, 32]) (by simp [Esc.sz, szh h.ptsA, szh h.ptsB]) rfl rfl rfl T_api_Hash (fits_hash h.ptsA)
theorem Cf.ld_ptsB (hg : G id = some (.own (s.av ))) (h : s.ok) : vload T G t_api_Hash (.ptr id [6, 1] 131) = some (.agg (s.ptsB.map u8v)) := ld2 hg (CfM.szl h ) rfl rfl (ss2 := [32, 32]) (by simp [Esc.sz, szh h.ptsA, szh h.ptsB]) rfl rfl rfl T_api_Hash (fits_hash h.ptsB)
theorem Cf.ld (hg : G id = some (.own (s.av ))) (h : s.ok) : vload T G t_api_Config (.ptr id [] 0) = some (s.av ) := whole_load T_api_Config hg (CfM.fits h )
theorem Cf.st_ours (hs : Sp F0 G0 ps G) (hi : ps[i]? = some (RowL id (s.av ))) (h : s.ok) (x : Int) (hK : ∀ G', Sp F0 G0 (ps.set i (RowL id (({ s with ours := x } : CfM).av ))) G' → K G') : wg (vstore T G t_int64 (.ptr id [2] 2) (.int .i64 x)) K :=
  wg_of (st1 (RowL.own hs hi) (CfM.szl h ) rfl rfl T_int64 rfl rfl rfl) (hK _ (Sp.setRow hs hi _))
theorem Cf.st (hs : Sp F0 G0 ps G) (hi : ps[i]? = some (RowL id (s.av ))) (h : s.ok) {s' : CfM} (h' : s'.ok) (hK : ∀ G', Sp F0 G0 (ps.set i (RowL id (s'.av ))) G' → K G') : wg (vstore T G t_api_Config (.ptr id [] 0) (s'.av )) K :=
  wg_of (whole_store T_api_Config (RowL.own hs hi) (CfM.fits h' ) (by rw [CfM.sz h , CfM.sz h' ]) (CfM.okv )) (hK _ (Sp.setRow hs hi _))
theorem Cf.nw {s' : CfM} (hs : Sp F0 G0 ps G) (h' : s'.ok) {K : AId → Heap → Prop} (hK : ∀ i G', Sp F0 G0 (RowL i (s'.av ) :: ps) G' → K i G') : aNew G (.own z_api_Config) fun i G2 => wg (vstore T G2 t_api_Config (.ptr i [] 0) (s'.av )) fun G3 => K i G3 :=
  newVal hs T_api_Config (CfM.fits h' ) (by rw [CfM.sz h' ]; rfl) (CfM.okv ) hK
end

end Go.Esc.M

/- Printed by gen_struct.py (own work): the struct Deal in a row. -/
set_option linter.unusedSimpArgs false
set_option linter.unusedVariables false
set_option maxRecDepth 20000
namespace Go.Esc.M
open Go Go.Esc

/-! ### Deal -/
structure DlM where
  cap : Int
  ours : Int
  seedsA : List UInt8
  seedsB : List UInt8
  keysA : List UInt8
  keysB : List UInt8
def DlM.cs (s : DlM) : List AVal := [.int .i64 s.cap, .int .i64 s.ours, .agg [.agg (s.seedsA.map u8v), .agg (s.seedsB.map u8v)], .agg [.agg (s.keysA.map u8v), .agg (s.keysB.map u8v)]]
def DlM.av (s : DlM) : AVal := .agg (s.cs )
structure DlM.ok (s : DlM) : Prop where
  cap : I64 s.cap
  ours : I64 s.ours
  seedsA : s.seedsA.length = 32
  seedsB : s.seedsB.length = 32
  keysA : s.keysA.length = 32
  keysB : s.keysB.length = 32
theorem DlM.szl {s : DlM} (h : s.ok) : (s.cs ).map Esc.sz = [1, 1, 64, 64] := by
  simp [DlM.cs, Esc.sz, szs, szh h.seedsA, szh h.seedsB, szh h.keysA, szh h.keysB]
theorem DlM.sz {s : DlM} (h : s.ok) : Esc.sz (s.av ) = 130 := by
  have e := DlM.szl h 
  rw [DlM.av, Esc.sz, szs_map, e]; rfl
theorem DlM.fits {s : DlM} (h : s.ok) : vfits ti_escrowlaw15_Deal (s.av ) = true := by
  have h1 := DlM.sz h 
  have h2 : (s.av ).isAgg = true := rfl
  simp [vfits, h1, h2, ti_escrowlaw15_Deal, ADesc.isAgg]
theorem DlM.okv {s : DlM} : Esc.okv (s.av ) = true := by
  simp [DlM.av, DlM.cs, Esc.okv, okvs, okvs_u8]
section
variable {F0 : List AId} {G0 G : Heap} {ps : List LP} {i : Nat} {id : AId} {s : DlM} {K : Heap → Prop} 
theorem Dl.ld_cap (hg : G id = some (.own (s.av ))) (h : s.ok) : vload T G t_int64 (.ptr id [0] 0) = some (.int .i64 s.cap) := ld1 hg (DlM.szl h ) rfl rfl T_int64 rfl
theorem Dl.ld_ours (hg : G id = some (.own (s.av ))) (h : s.ok) : vload T G t_int64 (.ptr id [1] 1) = some (.int .i64 s.ours) := ld1 hg (DlM.szl h ) rfl rfl T_int64 rfl
theorem Dl.ld_seedsA (hg : G id = some (.own (s.av ))) (h : s.ok) : vload T G t_api_Hash (.ptr id [2, 0] 2) = some (.agg (s.seedsA.map u8v)) := ld2 hg (DlM.szl h ) rfl rfl (ss2 := [32, 32]) (by simp [Esc.sz, szh h.seedsA, szh h.seedsB]) rfl rfl rfl T_api_Hash (fits_hash h.seedsA)
theorem Dl.ld_seedsB (hg : G id = some (.own (s.av ))) (h : s.ok) : vload T G t_api_Hash (.ptr id [2, 1] 34) = some (.agg (s.seedsB.map u8v)) := ld2 hg (DlM.szl h ) rfl rfl (ss2 := [32, 32]) (by simp [Esc.sz, szh h.seedsA, szh h.seedsB]) rfl rfl rfl T_api_Hash (fits_hash h.seedsB)
theorem Dl.ld_keysA (hg : G id = some (.own (s.av ))) (h : s.ok) : vload T G t_api_Hash (.ptr id [3, 0] 66) = some (.agg (s.keysA.map u8v)) := ld2 hg (DlM.szl h ) rfl rfl (ss2 := [32, 32]) (by simp [Esc.sz, szh h.keysA, szh h.keysB]) rfl rfl rfl T_api_Hash (fits_hash h.keysA)
theorem Dl.ld_keysB (hg : G id = some (.own (s.av ))) (h : s.ok) : vload T G t_api_Hash (.ptr id [3, 1] 98) = some (.agg (s.keysB.map u8v)) := ld2 hg (DlM.szl h ) rfl rfl (ss2 := [32, 32]) (by simp [Esc.sz, szh h.keysA, szh h.keysB]) rfl rfl rfl T_api_Hash (fits_hash h.keysB)
theorem Dl.ld (hg : G id = some (.own (s.av ))) (h : s.ok) : vload T G t_escrowlaw15_Deal (.ptr id [] 0) = some (s.av ) := whole_load T_escrowlaw15_Deal hg (DlM.fits h )
theorem Dl.st_ours (hs : Sp F0 G0 ps G) (hi : ps[i]? = some (RowL id (s.av ))) (h : s.ok) (x : Int) (hK : ∀ G', Sp F0 G0 (ps.set i (RowL id (({ s with ours := x } : DlM).av ))) G' → K G') : wg (vstore T G t_int64 (.ptr id [1] 1) (.int .i64 x)) K :=
  wg_of (st1 (RowL.own hs hi) (DlM.szl h ) rfl rfl T_int64 rfl rfl rfl) (hK _ (Sp.setRow hs hi _))
theorem Dl.st (hs : Sp F0 G0 ps G) (hi : ps[i]? = some (RowL id (s.av ))) (h : s.ok) {s' : DlM} (h' : s'.ok) (hK : ∀ G', Sp F0 G0 (ps.set i (RowL id (s'.av ))) G' → K G') : wg (vstore T G t_escrowlaw15_Deal (.ptr id [] 0) (s'.av )) K :=
  wg_of (whole_store T_escrowlaw15_Deal (RowL.own hs hi) (DlM.fits h' ) (by rw [DlM.sz h , DlM.sz h' ]) (DlM.okv )) (hK _ (Sp.setRow hs hi _))
theorem Dl.nw {s' : DlM} (hs : Sp F0 G0 ps G) (h' : s'.ok) {K : AId → Heap → Prop} (hK : ∀ i G', Sp F0 G0 (RowL i (s'.av ) :: ps) G' → K i G') : aNew G (.own z_escrowlaw15_Deal) fun i G2 => wg (vstore T G2 t_escrowlaw15_Deal (.ptr i [] 0) (s'.av )) fun G3 => K i G3 :=
  newVal hs T_escrowlaw15_Deal (DlM.fits h' ) (by rw [DlM.sz h' ]; rfl) (DlM.okv ) hK
end

end Go.Esc.M

/- Own work. Chapter 12: updates written. -/
set_option linter.unusedSimpArgs false
set_option linter.unusedVariables false
set_option maxRecDepth 20000
namespace Go.Esc.M
open Go Go.Esc

theorem valid_spec {u : UpdM} (h : validU u = true) : 0 ≤ u.id ∧ u.id < 2048 ∧ ((u.kind = 1 ∧ 1 ≤ u.amount ∧ u.amount ≤ 1152921504606846976 ∧ u.note = []) ∨ (u.kind = 2 ∧ u.amount = 0 ∧ u.note = []) ∨ (u.kind = 3 ∧ u.amount = 0 ∧ u.hash = h0 ∧ u.note.length ≤ 64)) := by
  unfold validU maxAm at h
  simp only [Bool.and_eq_true, decide_eq_true_eq] at h
  obtain ⟨h1, h2, h3⟩ := h
  refine ⟨h1, h2, ?_⟩
  split at h3
  · simp only [Bool.and_eq_true, decide_eq_true_eq] at h3
    rename_i hk
    exact .inl ⟨hk, h3.1, h3.2.1, h3.2.2⟩
  split at h3
  · simp only [Bool.and_eq_true, decide_eq_true_eq] at h3
    rename_i hk
    exact .inr (.inl ⟨hk, h3.1, h3.2⟩)
  split at h3
  · simp only [Bool.and_eq_true, decide_eq_true_eq] at h3
    rename_i hk
    exact .inr (.inr ⟨hk, h3.1, h3.2.1, h3.2.2⟩)
  · cases h3

section
variable {F0 : List AId} {G0 G : Heap} {ps : List LP} {Q : AVal → Heap → Prop}

theorem slice_upd {i : AId} {u : UpdM} (h : u.ok) (hg : G i = some (.own u.av)) : ∃ x, vslice T t_api_Hash (.ptr i [3] 3) none none none = some x ∧ IsSl 1 G x (u.hash.map u8v) := by
  have e1 : T t_api_Hash = some ti_api_Hash := T_api_Hash
  have e2 : ti_api_Hash.desc = .array 32 t_uint8 := rfl
  refine ⟨.slice i [3] 0 3 32 32, by simp [vslice, e1, e2, T_uint8, sbounds, sbound, ti_uint8], .inl ⟨_, _, _, _, _, _, rfl, ?_⟩⟩
  have hh := h.hash
  have ha : arrAt G 1 i [3] 0 3 = some (u.hash.map u8v) := by
    simp [arrAt, vsub, hg, treeOf, UpdM.av, UpdM.cs, sub, szs, Esc.sz, uni_u8]
  rw [selems, ha]
  simp [hh, List.take_of_length_le]

end
end Go.Esc.M

/- Own work. Chapter 12: updates read. -/
set_option linter.unusedSimpArgs false
set_option linter.unusedVariables false
set_option maxRecDepth 20000
namespace Go.Esc.M
open Go Go.Esc

def okU (u : UpdM) (n : Nat) : UpdM × Int × Int := bif validU u then (u, (n : Int), 0) else (UpdM.zero, 0, 120)
theorem i64_0 : I64 0 := ⟨by decide, by decide⟩
theorem zUpd : z_api_Update = UpdM.zero.av := rfl
theorem build_none : vbuild T t_api_Update [] = some UpdM.zero.av := rfl
section
variable {F0 : List AId} {G0 G : Heap} {ps : List LP} {Q : AVal → Heap → Prop}

end
end Go.Esc.M

/- Own work. Chapter 12: updates read, in the document. -/
set_option linter.unusedSimpArgs false
set_option linter.unusedVariables false
set_option maxRecDepth 20000
namespace Go.Esc.M
open Go Go.Esc

section
variable {F0 : List AId} {G0 G : Heap} {ps : List LP} {Q : AVal → Heap → Prop}

end
end Go.Esc.M

/- Own work. Chapter 12: finds; adds; UpdateBytes. -/
set_option linter.unusedSimpArgs false
set_option linter.unusedVariables false
set_option maxRecDepth 20000
namespace Go.Esc.M
open Go Go.Esc

def hits (rm : Bool) (id : Int) (u : UpdM) : Bool := decide (u.id = id) && bif rm then decide (u.kind = 2) || decide (u.kind = 3) else decide (u.kind = 1)
def firstU (rm : Bool) (id : Int) (l : List UpdM) : Option UpdM := l.find? (hits rm id)
def optU (o : Option UpdM) : AVal := .tuple [(o.getD UpdM.zero).av, .bool o.isSome]
def addsU (l : List UpdM) : Nat := (l.filter (fun u => decide (u.kind = 1))).length
theorem firstU_ok {rm : Bool} {id : Int} {l : List UpdM} (h : ∀ u ∈ l, u.ok) : ((firstU rm id l).getD UpdM.zero).ok := by
  cases hf : firstU rm id l with
  | none => exact UpdM.zero_ok
  | some u => exact h u (List.mem_of_find?_eq_some hf)
theorem addsU_take {l : List UpdM} {j : Nat} {u : UpdM} (h : l[j]? = some u) : addsU (l.take (j + 1)) = addsU (l.take j) + (if u.kind = 1 then 1 else 0) := by
  rw [List.take_add_one, h]
  unfold addsU
  rw [List.filter_append, List.length_append]
  by_cases hk : u.kind = 1 <;> simp [hk]
theorem addsU_le (l : List UpdM) : addsU l ≤ l.length := List.length_filter_le _ _

section
variable {F0 : List AId} {G0 G : Heap} {ps : List LP} {Q : AVal → Heap → Prop}

theorem upd_at {v : AVal} {l : List UpdM} {j : Nat} {u : UpdM} (h : IsSl 36 G v (l.map UpdM.av)) (hj : l[j]? = some u) : ∃ a, viaddr T t_sl_api_Update v (.int .i64 (j : Int)) = some a ∧ vload T G t_api_Update a = some u.av :=
  h.at_ (k := .i64) (i := ti_sl_api_Update) (ie := ti_api_Update) (T := T) (t := t_sl_api_Update) (e := t_api_Update) T_sl_api_Update rfl T_api_Update (by rw [List.getElem?_map, hj]; rfl) rfl
theorem upd_len {v : AVal} {l : List UpdM} (h : IsSl 36 G v (l.map UpdM.av)) : vlen T G t_sl_api_Update v = some (.int .i64 (l.length : Nat)) := by
  rw [h.len (i := ti_sl_api_Update) T_sl_api_Update rfl, List.length_map]
theorem newU {u : UpdM} {K : AId → Heap → Prop} (hs : Sp F0 G0 ps G) (hu : u.ok) (hK : ∀ i G', Sp F0 G0 (RowL i u.av :: ps) G' → K i G') : aNew G (.own z_api_Update) fun i G2 => wg (vstore T G2 t_api_Update (.ptr i [] 0) u.av) fun G3 => K i G3 :=
  newVal hs T_api_Update (UpdM.fits hu) (by rw [UpdM.sz hu]; rfl) (UpdM.okv u) hK

set_option maxHeartbeats 1000000 in
theorem update_first.use {v : AVal} {l : List UpdM} {id : Int} {rm : Bool} (hl : IsSl 36 G v (l.map UpdM.av)) (hok : ∀ u ∈ l, u.ok) (hlen : l.length ≤ 9223372036854775807) (hQ : ∀ G', Ch [] G [] G' → Q (optU (firstU rm id l)) G') :
    ACalls P update_first.n [v, .int .i64 id, .bool rm] G Q := by
  refine update_first.sound ?_
  unfold update_first.S
  intro i1 f1
  have s1 : Sp [] G [RowL i1 UpdM.zero.av] _ := (Sp.nil G).row f1 UpdM.zero.av
  refine wv_of (upd_len (hl.ch' s1.ch)) ?_
  intro R hR
  have loop : ∀ (n j : Nat) (G' : Heap), l.length - j = n → j ≤ l.length → firstU rm id (l.drop j) = firstU rm id l → Sp [] G [RowL i1 UpdM.zero.av] G' → R [.int .i64 id, .bool rm, .ptr i1 [] 0, v, .int .i64 (l.length : Nat), .int .i64 (j : Int)] G' := by
    intro n
    induction n with
    | zero =>
      intro j G' hn hj he hs
      have : j = l.length := by omega
      subst this
      rw [List.drop_length] at he
      refine hR _ _ _ _ _ _ _ ?_
      rw [vbin_lss, wv_some, brB_dec]
      refine ⟨fun h => absurd h (by omega), fun _ => ?_⟩
      rw [build_none, wv_some]
      refine upd_store (i := 0) hs rfl UpdM.zero_ok UpdM.zero_ok fun G2 s2 => ?_
      refine wv_of (upd_load (i := 0) s2 rfl UpdM.zero_ok).2.2.2.2.2 ?_
      have := hQ _ s2.ch
      rw [← he] at this
      exact this
    | succ n ih =>
      intro j G' hn hj he hs
      obtain ⟨u, hu⟩ : ∃ u, l[j]? = some u := ⟨_, List.getElem?_eq_getElem (by omega)⟩
      have huo := hok u (List.mem_of_getElem? hu)
      obtain ⟨a, ha, hla⟩ := upd_at (hl.ch' hs.ch) hu
      have hdr : l.drop j = u :: l.drop (j + 1) := by
        obtain ⟨hx, rfl⟩ := List.getElem?_eq_some_iff.1 hu
        exact List.drop_eq_getElem_cons hx
      rw [hdr, firstU, List.find?_cons] at he
      refine hR _ _ _ _ _ _ _ ?_
      rw [vbin_lss, wv_some, brB_dec]
      refine ⟨fun _ => ?_, fun h => absurd (by omega) h⟩
      rw [ha, wv_some, hla, wv_some]
      refine newU hs huo fun i15 G17 s17 => ?_
      obtain ⟨l0, l1, _⟩ := upd_load (i := 0) s17 rfl huo
      intro J36
      have yes : hits rm id u = true → J36 (.bool true) G17 := by
        intro h
        rw [h] at he
        simp -zeta only [J36, brB_true]
        refine wv_of (upd_load (i := 0) s17 rfl huo).2.2.2.2.2 ?_
        refine upd_store (i := 1) s17 rfl UpdM.zero_ok huo fun G2 s2 => ?_
        refine wv_of (upd_load (i := 1) s2 rfl huo).2.2.2.2.2 ?_
        have := hQ _ s2.ch
        rw [← he] at this
        exact this
      have no : hits rm id u = false → J36 (.bool false) G17 := by
        intro h
        rw [h] at he
        simp -zeta only [J36, brB_false]
        rw [vbin_add, wv_some, i64_in (by omega) (by omega)]
        exact ih (j + 1) G17 (by omega) (by omega) he (s17.erase 0)
      unfold hits at yes no
      rw [l1, wv_some, vbin_eql, wv_some, brB_dec]
      refine ⟨fun hid => ?_, fun hid => no (by rw [decide_eq_false hid, Bool.false_and])⟩
      rw [decide_eq_true hid, Bool.true_and] at yes no
      cases rm with
      | false =>
        rw [cond_false] at yes no
        rw [vun_not, wv_some, Bool.not_false, brB_true, l0, wv_some, vbin_eql, wv_some, brB_dec]
        refine ⟨fun hk => yes (decide_eq_true hk), fun hk => ?_⟩
        rw [brB_false]
        exact no (decide_eq_false hk)
      | true =>
        rw [cond_true] at yes no
        rw [vun_not, wv_some, Bool.not_true, brB_false, brB_true, l0, wv_some, vbin_eql, wv_some, brB_dec]
        refine ⟨fun hk => yes (by rw [decide_eq_true hk, Bool.true_or]), fun hk => ?_⟩
        rw [decide_eq_false hk, Bool.false_or] at yes no
        rw [wv_some, vbin_eql, wv_some]
        by_cases h3 : u.kind = 3
        · rw [decide_eq_true h3]; exact yes (decide_eq_true h3)
        · rw [decide_eq_false h3]; exact no (decide_eq_false h3)
  exact loop _ 0 _ rfl (by omega) (by simp) s1

theorem opt0 (o : Option UpdM) : vextract (optU o) 0 = some (o.getD UpdM.zero).av := rfl
theorem opt1 (o : Option UpdM) : vextract (optU o) 1 = some (.bool o.isSome) := rfl

theorem update_Find.use {v : AVal} {l : List UpdM} {id : Int} (hl : IsSl 36 G v (l.map UpdM.av)) (hok : ∀ u ∈ l, u.ok) (hlen : l.length ≤ 9223372036854775807) (hQ : ∀ G', Ch [] G [] G' → Q (optU (firstU false id l)) G') :
    ACalls P update_Find.n [v, .int .i64 id] G Q := by
  refine update_Find.sound ?_
  unfold update_Find.S
  intro i1 f1
  have s1 : Sp [] G [RowL i1 UpdM.zero.av] _ := (Sp.nil G).row f1 UpdM.zero.av
  refine update_first.use (hl.ch' s1.ch) hok hlen fun G4 c4 => ?_
  have s4 := s1.tmp c4
  have hf := firstU_ok (rm := false) (id := id) hok
  rw [opt0, wv_some, opt1, wv_some]
  refine upd_store (i := 0) s4 rfl UpdM.zero_ok hf fun G2 s2 => ?_
  refine wv_of (upd_load (i := 0) s2 rfl hf).2.2.2.2.2 ?_
  exact hQ _ s2.ch
theorem update_Removal.use {v : AVal} {l : List UpdM} {id : Int} (hl : IsSl 36 G v (l.map UpdM.av)) (hok : ∀ u ∈ l, u.ok) (hlen : l.length ≤ 9223372036854775807) (hQ : ∀ G', Ch [] G [] G' → Q (optU (firstU true id l)) G') :
    ACalls P update_Removal.n [v, .int .i64 id] G Q := by
  refine update_Removal.sound ?_
  unfold update_Removal.S
  intro i1 f1
  have s1 : Sp [] G [RowL i1 UpdM.zero.av] _ := (Sp.nil G).row f1 UpdM.zero.av
  refine update_first.use (hl.ch' s1.ch) hok hlen fun G4 c4 => ?_
  have s4 := s1.tmp c4
  have hf := firstU_ok (rm := true) (id := id) hok
  rw [opt0, wv_some, opt1, wv_some]
  refine upd_store (i := 0) s4 rfl UpdM.zero_ok hf fun G2 s2 => ?_
  refine wv_of (upd_load (i := 0) s2 rfl hf).2.2.2.2.2 ?_
  exact hQ _ s2.ch

theorem update_adds.use {v : AVal} {l : List UpdM} (hl : IsSl 36 G v (l.map UpdM.av)) (hok : ∀ u ∈ l, u.ok) (hlen : l.length ≤ 9223372036854775807) (hQ : ∀ G', Ch [] G [] G' → Q (.int .i64 (addsU l : Nat)) G') :
    ACalls P update_adds.n [v] G Q := by
  refine update_adds.sound ?_
  unfold update_adds.S
  refine wv_of (upd_len hl) ?_
  intro R hR
  have loop : ∀ (n j : Nat) (G' : Heap), l.length - j = n → j ≤ l.length → Sp [] G [] G' → R [.int .i64 (addsU (l.take j) : Nat), v, .int .i64 (l.length : Nat), .int .i64 (j : Int)] G' := by
    intro n
    induction n with
    | zero =>
      intro j G' hn hj hs
      have : j = l.length := by omega
      subst this
      refine hR _ _ _ _ _ ?_
      rw [vbin_lss, wv_some, brB_dec]
      refine ⟨fun h => absurd h (by omega), fun _ => ?_⟩
      rw [List.take_length]
      exact hQ _ hs.ch
    | succ n ih =>
      intro j G' hn hj hs
      obtain ⟨u, hu⟩ : ∃ u, l[j]? = some u := ⟨_, List.getElem?_eq_getElem (by omega)⟩
      have huo := hok u (List.mem_of_getElem? hu)
      obtain ⟨a, ha, hla⟩ := upd_at (hl.ch' hs.ch) hu
      have ht := addsU_take hu
      have hle := addsU_le (l.take j)
      have hlj : (l.take j).length ≤ j := List.length_take_le _ _
      refine hR _ _ _ _ _ ?_
      rw [vbin_lss, wv_some, brB_dec]
      refine ⟨fun _ => ?_, fun h => absurd (by omega) h⟩
      rw [ha, wv_some, hla, wv_some]
      refine newU hs huo fun i11 G13 s13 => ?_
      refine wv_of (upd_load (i := 0) s13 rfl huo).1 ?_
      rw [vbin_eql, wv_some, brB_dec]
      refine ⟨fun hk => ?_, fun hk => ?_⟩
      · rw [if_pos hk] at ht
        rw [vbin_add, wv_some, i64_in (by omega) (by omega), vbin_add, wv_some, i64_in (by omega) (by omega), show ((addsU (l.take j) : Nat) : Int) + 1 = ((addsU (l.take (j + 1)) : Nat) : Int) by omega]
        exact ih (j + 1) G13 (by omega) (by omega) (s13.erase 0)
      · rw [if_neg hk] at ht
        rw [vbin_add, wv_some, i64_in (by omega) (by omega), show addsU (l.take j) = addsU (l.take (j + 1)) by omega]
        exact ih (j + 1) G13 (by omega) (by omega) (s13.erase 0)
  exact loop _ 0 G rfl (by omega) (Sp.nil G)

end
end Go.Esc.M

/- Own work. Chapter 12: the document's examples; UpdateBytes. -/
set_option linter.unusedSimpArgs false
set_option linter.unusedVariables false
set_option maxRecDepth 20000
namespace Go.Esc.M
open Go Go.Esc

theorem eqF_upd {p p' : UpdM} (h : p.ok) (h' : p'.ok) : eqF T (veqD T 8) [(t_int, 0), (t_int64, 1), (t_int64, 2), (t_api_Hash, 3), (t_string, 35)] p.cs p'.cs 0 = some (decide (p = p')) := by
  have z1 := fits_hash h.hash
  have z2 := fits_hash h'.hash
  have q2 : ∀ m n : Int, veqD T 8 t_int64 (.int .i64 m) (.int .i64 n) = some (decide (m = n)) := fun m n => by
    rw [veqD]; simp only [T_int64]; rfl
  have q1 : ∀ m n : Int, veqD T 8 t_int (.int .i64 m) (.int .i64 n) = some (decide (m = n)) := fun m n => by
    rw [veqD]; simp only [T_int]; rfl
  have q4 : ∀ m n : List UInt8, veqD T 8 t_string (.str m) (.str n) = some (decide (m = n)) := fun m n => by
    rw [veqD]; simp only [T_string]; rfl
  have v1 : ∀ m : Int, vfits ti_int (.int .i64 m) = true := fun m => rfl
  have v2 : ∀ m : Int, vfits ti_int64 (.int .i64 m) = true := fun m => rfl
  have v4 : ∀ m : List UInt8, vfits ti_string (.str m) = true := fun m => rfl
  have s1 : ti_int.size = 1 := rfl
  have s2 : ti_int64.size = 1 := rfl
  have s3 : ti_api_Hash.size = 32 := rfl
  have q3 := veq_hash h.hash h'.hash
  obtain ⟨a, b, c, d, e⟩ := p
  obtain ⟨a', b', c', d', e'⟩ := p'
  dsimp only at z1 z2 q3
  simp only [UpdM.cs, eqF, T_int, T_int64, T_api_Hash, T_string, v1, v2, v4, z1, z2, s1, s2, s3, Nat.zero_add, q1, q2, q3, q4, beq_self_eq_true, Bool.and_self, Nat.reduceAdd, if_true]
  by_cases h1 : a = a'
  · subst h1
    by_cases h2 : b = b'
    · subst h2
      by_cases h3 : c = c'
      · subst h3
        by_cases h4 : d = d'
        · subst h4
          by_cases h5 : e = e'
          · subst h5; simp
          · simp [h5]
        · simp [h4]
      · simp [h3]
    · simp [h2]
  · simp [h1]

theorem veq_upd {p p' : UpdM} (h : p.ok) (h' : p'.ok) : veqD T 9 t_api_Update p.av p'.av = some (decide (p = p')) := by
  rw [← eqF_upd h h', veqD]
  have e1 : ti_api_Update.desc = .struct [(t_int, 0), (t_int64, 1), (t_int64, 2), (t_api_Hash, 3), (t_string, 35)] := rfl
  simp only [T_api_Update, e1]
  rfl
theorem vbin_ueql {p p' : UpdM} (h : p.ok) (h' : p'.ok) : vbin T .eql t_api_Update p.av p'.av = some (.bool (decide (p = p'))) := by
  have := veq_upd h h'
  unfold UpdM.av at this ⊢
  simp only [vbin, this]
section
variable {F0 : List AId} {G0 G : Heap} {ps : List LP} {Q : AVal → Heap → Prop}


end

end Go.Esc.M
