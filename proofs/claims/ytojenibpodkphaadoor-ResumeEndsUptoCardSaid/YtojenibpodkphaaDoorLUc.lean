import Derived.Test.YtojenibpodkphaaDoorLPw
import Derived.Test.YtojenibpodkphaaDoorLDg
import Derived.Test.YtojenibpodkphaaDoorLCr
import Derived.Test.YtojenibpodkphaaDoorLCo
/- Printed by gen_struct.py (own work): the struct State in a row. -/
set_option linter.unusedSimpArgs false
set_option linter.unusedVariables false
set_option maxRecDepth 20000
namespace Go.Esc.M
open Go Go.Esc

/-! ### State -/
structure StM where
  side : Int
  cap : Int
  bo : Int
  bp : Int
  loc : Int
  rem : Int
  ack : Int
  atA : Int
  atB : Int
  sgnA : Int
  sgnB : Int
  heldA : Int
  heldB : Int
  behind : Bool
  ptsA : List UInt8
  ptsB : List UInt8
  sig : List UInt8
  failed : Int
  closed : Int
def StM.cs (s : StM) (v_ours v_peers v_shelf : AVal) : List AVal := [.int .i64 s.side, .int .i64 s.cap, .int .i64 s.bo, .int .i64 s.bp, v_ours, v_peers, .int .i64 s.loc, .int .i64 s.rem, .int .i64 s.ack, .agg [.int .i64 s.atA, .int .i64 s.atB], .agg [.int .i64 s.sgnA, .int .i64 s.sgnB], .agg [.int .i64 s.heldA, .int .i64 s.heldB], .bool s.behind, .agg [.agg (s.ptsA.map u8v), .agg (s.ptsB.map u8v)], .agg (s.sig.map u8v), v_shelf, .int .i64 s.failed, .int .i64 s.closed]
def StM.av (s : StM) (v_ours v_peers v_shelf : AVal) : AVal := .agg (s.cs v_ours v_peers v_shelf)
structure StM.ok (s : StM) : Prop where
  side : I64 s.side
  cap : I64 s.cap
  bo : I64 s.bo
  bp : I64 s.bp
  loc : I64 s.loc
  rem : I64 s.rem
  ack : I64 s.ack
  atA : I64 s.atA
  atB : I64 s.atB
  sgnA : I64 s.sgnA
  sgnB : I64 s.sgnB
  heldA : I64 s.heldA
  heldB : I64 s.heldB
  ptsA : s.ptsA.length = 32
  ptsB : s.ptsB.length = 32
  sig : s.sig.length = 32
  failed : I64 s.failed
  closed : I64 s.closed
theorem StM.szl {s : StM} {v_ours v_peers v_shelf : AVal} (h : s.ok) (l : Leaf v_ours ∧ Leaf v_peers ∧ Leaf v_shelf) : (s.cs v_ours v_peers v_shelf).map Esc.sz = [1, 1, 1, 1, 1, 1, 1, 1, 1, 2, 2, 2, 1, 64, 32, 1, 1, 1] := by
  simp [StM.cs, Esc.sz, szs, szh h.ptsA, szh h.ptsB, szh h.sig, l.1.1, l.2.1.1, l.2.2.1]
theorem StM.sz {s : StM} {v_ours v_peers v_shelf : AVal} (h : s.ok) (l : Leaf v_ours ∧ Leaf v_peers ∧ Leaf v_shelf) : Esc.sz (s.av v_ours v_peers v_shelf) = 115 := by
  have e := StM.szl h l
  rw [StM.av, Esc.sz, szs_map, e]; rfl
theorem StM.fits {s : StM} {v_ours v_peers v_shelf : AVal} (h : s.ok) (l : Leaf v_ours ∧ Leaf v_peers ∧ Leaf v_shelf) : vfits ti_api_State (s.av v_ours v_peers v_shelf) = true := by
  have h1 := StM.sz h l
  have h2 : (s.av v_ours v_peers v_shelf).isAgg = true := rfl
  simp [vfits, h1, h2, ti_api_State, ADesc.isAgg]
theorem StM.okv {s : StM} {v_ours v_peers v_shelf : AVal} (l : Leaf v_ours ∧ Leaf v_peers ∧ Leaf v_shelf) : Esc.okv (s.av v_ours v_peers v_shelf) = true := by
  simp [StM.av, StM.cs, Esc.okv, okvs, okvs_u8, l.1.2.2, l.2.1.2.2, l.2.2.2.2]
section
variable {F0 : List AId} {G0 G : Heap} {ps : List LP} {i : Nat} {id : AId} {s : StM} {K : Heap → Prop} {v_ours v_peers v_shelf : AVal} 
theorem St.ld_side (hg : G id = some (.own (s.av v_ours v_peers v_shelf))) (h : s.ok) (l : Leaf v_ours ∧ Leaf v_peers ∧ Leaf v_shelf) : vload T G t_int (.ptr id [0] 0) = some (.int .i64 s.side) := ld1 hg (StM.szl h l) rfl rfl T_int rfl
theorem St.ld_cap (hg : G id = some (.own (s.av v_ours v_peers v_shelf))) (h : s.ok) (l : Leaf v_ours ∧ Leaf v_peers ∧ Leaf v_shelf) : vload T G t_int64 (.ptr id [1] 1) = some (.int .i64 s.cap) := ld1 hg (StM.szl h l) rfl rfl T_int64 rfl
theorem St.ld_bo (hg : G id = some (.own (s.av v_ours v_peers v_shelf))) (h : s.ok) (l : Leaf v_ours ∧ Leaf v_peers ∧ Leaf v_shelf) : vload T G t_int64 (.ptr id [2] 2) = some (.int .i64 s.bo) := ld1 hg (StM.szl h l) rfl rfl T_int64 rfl
theorem St.ld_bp (hg : G id = some (.own (s.av v_ours v_peers v_shelf))) (h : s.ok) (l : Leaf v_ours ∧ Leaf v_peers ∧ Leaf v_shelf) : vload T G t_int64 (.ptr id [3] 3) = some (.int .i64 s.bp) := ld1 hg (StM.szl h l) rfl rfl T_int64 rfl
theorem St.ld_ours (hg : G id = some (.own (s.av v_ours v_peers v_shelf))) (h : s.ok) (l : Leaf v_ours ∧ Leaf v_peers ∧ Leaf v_shelf) : vload T G t_sl_api_Update (.ptr id [4] 4) = some (v_ours) := ld1 hg (StM.szl h l) rfl rfl T_sl_api_Update (fits_leaf l.1 rfl)
theorem St.ld_peers (hg : G id = some (.own (s.av v_ours v_peers v_shelf))) (h : s.ok) (l : Leaf v_ours ∧ Leaf v_peers ∧ Leaf v_shelf) : vload T G t_sl_api_Update (.ptr id [5] 5) = some (v_peers) := ld1 hg (StM.szl h l) rfl rfl T_sl_api_Update (fits_leaf l.2.1 rfl)
theorem St.ld_loc (hg : G id = some (.own (s.av v_ours v_peers v_shelf))) (h : s.ok) (l : Leaf v_ours ∧ Leaf v_peers ∧ Leaf v_shelf) : vload T G t_int64 (.ptr id [6] 6) = some (.int .i64 s.loc) := ld1 hg (StM.szl h l) rfl rfl T_int64 rfl
theorem St.ld_rem (hg : G id = some (.own (s.av v_ours v_peers v_shelf))) (h : s.ok) (l : Leaf v_ours ∧ Leaf v_peers ∧ Leaf v_shelf) : vload T G t_int64 (.ptr id [7] 7) = some (.int .i64 s.rem) := ld1 hg (StM.szl h l) rfl rfl T_int64 rfl
theorem St.ld_ack (hg : G id = some (.own (s.av v_ours v_peers v_shelf))) (h : s.ok) (l : Leaf v_ours ∧ Leaf v_peers ∧ Leaf v_shelf) : vload T G t_int64 (.ptr id [8] 8) = some (.int .i64 s.ack) := ld1 hg (StM.szl h l) rfl rfl T_int64 rfl
theorem St.ld_at (hg : G id = some (.own (s.av v_ours v_peers v_shelf))) (h : s.ok) (l : Leaf v_ours ∧ Leaf v_peers ∧ Leaf v_shelf) : vload T G t_api_Counts (.ptr id [9] 9) = some (pairW s.atA s.atB) := ld1 hg (StM.szl h l) rfl rfl T_api_Counts rfl
theorem St.ld_sgn (hg : G id = some (.own (s.av v_ours v_peers v_shelf))) (h : s.ok) (l : Leaf v_ours ∧ Leaf v_peers ∧ Leaf v_shelf) : vload T G t_api_Counts (.ptr id [10] 11) = some (pairW s.sgnA s.sgnB) := ld1 hg (StM.szl h l) rfl rfl T_api_Counts rfl
theorem St.ld_sgnA (hg : G id = some (.own (s.av v_ours v_peers v_shelf))) (h : s.ok) (l : Leaf v_ours ∧ Leaf v_peers ∧ Leaf v_shelf) : vload T G t_int (.ptr id [10, 0] 11) = some (.int .i64 s.sgnA) := ld2 hg (StM.szl h l) rfl rfl (ss2 := [1, 1]) rfl rfl rfl rfl T_int rfl
theorem St.ld_held (hg : G id = some (.own (s.av v_ours v_peers v_shelf))) (h : s.ok) (l : Leaf v_ours ∧ Leaf v_peers ∧ Leaf v_shelf) : vload T G t_api_Counts (.ptr id [11] 13) = some (pairW s.heldA s.heldB) := ld1 hg (StM.szl h l) rfl rfl T_api_Counts rfl
theorem St.ld_heldA (hg : G id = some (.own (s.av v_ours v_peers v_shelf))) (h : s.ok) (l : Leaf v_ours ∧ Leaf v_peers ∧ Leaf v_shelf) : vload T G t_int (.ptr id [11, 0] 13) = some (.int .i64 s.heldA) := ld2 hg (StM.szl h l) rfl rfl (ss2 := [1, 1]) rfl rfl rfl rfl T_int rfl
theorem St.ld_behind (hg : G id = some (.own (s.av v_ours v_peers v_shelf))) (h : s.ok) (l : Leaf v_ours ∧ Leaf v_peers ∧ Leaf v_shelf) : vload T G t_bool (.ptr id [12] 15) = some (.bool s.behind) := ld1 hg (StM.szl h l) rfl rfl T_bool rfl
theorem St.ld_pts (hg : G id = some (.own (s.av v_ours v_peers v_shelf))) (h : s.ok) (l : Leaf v_ours ∧ Leaf v_peers ∧ Leaf v_shelf) : vload T G t_ar2_api_Hash (.ptr id [13] 16) = some (hash2V s.ptsA s.ptsB) := ld1 hg (StM.szl h l) rfl rfl T_ar2_api_Hash (fits_hash2 h.ptsA h.ptsB)
theorem St.ld_ptsA (hg : G id = some (.own (s.av v_ours v_peers v_shelf))) (h : s.ok) (l : Leaf v_ours ∧ Leaf v_peers ∧ Leaf v_shelf) : vload T G t_api_Hash (.ptr id [13, 0] 16) = some (.agg (s.ptsA.map u8v)) := ld2 hg (StM.szl h l) rfl rfl (ss2 := [32, 32]) (by simp [Esc.sz, szh h.ptsA, szh h.ptsB]) rfl rfl rfl T_api_Hash (fits_hash h.ptsA)
theorem St.ld_ptsB (hg : G id = some (.own (s.av v_ours v_peers v_shelf))) (h : s.ok) (l : Leaf v_ours ∧ Leaf v_peers ∧ Leaf v_shelf) : vload T G t_api_Hash (.ptr id [13, 1] 48) = some (.agg (s.ptsB.map u8v)) := ld2 hg (StM.szl h l) rfl rfl (ss2 := [32, 32]) (by simp [Esc.sz, szh h.ptsA, szh h.ptsB]) rfl rfl rfl T_api_Hash (fits_hash h.ptsB)
theorem St.ld_sig (hg : G id = some (.own (s.av v_ours v_peers v_shelf))) (h : s.ok) (l : Leaf v_ours ∧ Leaf v_peers ∧ Leaf v_shelf) : vload T G t_api_Hash (.ptr id [14] 80) = some (.agg (s.sig.map u8v)) := ld1 hg (StM.szl h l) rfl rfl T_api_Hash (fits_hash h.sig)
theorem St.ld_shelf (hg : G id = some (.own (s.av v_ours v_peers v_shelf))) (h : s.ok) (l : Leaf v_ours ∧ Leaf v_peers ∧ Leaf v_shelf) : vload T G t_sl_api_Slot (.ptr id [15] 112) = some (v_shelf) := ld1 hg (StM.szl h l) rfl rfl T_sl_api_Slot (fits_leaf l.2.2 rfl)
theorem St.ld_failed (hg : G id = some (.own (s.av v_ours v_peers v_shelf))) (h : s.ok) (l : Leaf v_ours ∧ Leaf v_peers ∧ Leaf v_shelf) : vload T G t_int (.ptr id [16] 113) = some (.int .i64 s.failed) := ld1 hg (StM.szl h l) rfl rfl T_int rfl
theorem St.ld_closed (hg : G id = some (.own (s.av v_ours v_peers v_shelf))) (h : s.ok) (l : Leaf v_ours ∧ Leaf v_peers ∧ Leaf v_shelf) : vload T G t_int64 (.ptr id [17] 114) = some (.int .i64 s.closed) := ld1 hg (StM.szl h l) rfl rfl T_int64 rfl
theorem St.ld (hg : G id = some (.own (s.av v_ours v_peers v_shelf))) (h : s.ok) (l : Leaf v_ours ∧ Leaf v_peers ∧ Leaf v_shelf) : vload T G t_api_State (.ptr id [] 0) = some (s.av v_ours v_peers v_shelf) := whole_load T_api_State hg (StM.fits h l)
theorem St.st_ours (hs : Sp F0 G0 ps G) (hi : ps[i]? = some (RowL id (s.av v_ours v_peers v_shelf))) (h : s.ok) (l : Leaf v_ours ∧ Leaf v_peers ∧ Leaf v_shelf) {x : AVal} (hx : Leaf x) (hK : ∀ G', Sp F0 G0 (ps.set i (RowL id (s.av x v_peers v_shelf))) G' → K G') : wg (vstore T G t_sl_api_Update (.ptr id [4] 4) x) K :=
  wg_of (st1 (RowL.own hs hi) (StM.szl h l) rfl rfl T_sl_api_Update (fits_leaf hx rfl) (by rw [l.1.1, hx.1]) hx.2.2) (hK _ (Sp.setRow hs hi _))
theorem St.st_peers (hs : Sp F0 G0 ps G) (hi : ps[i]? = some (RowL id (s.av v_ours v_peers v_shelf))) (h : s.ok) (l : Leaf v_ours ∧ Leaf v_peers ∧ Leaf v_shelf) {x : AVal} (hx : Leaf x) (hK : ∀ G', Sp F0 G0 (ps.set i (RowL id (s.av v_ours x v_shelf))) G' → K G') : wg (vstore T G t_sl_api_Update (.ptr id [5] 5) x) K :=
  wg_of (st1 (RowL.own hs hi) (StM.szl h l) rfl rfl T_sl_api_Update (fits_leaf hx rfl) (by rw [l.2.1.1, hx.1]) hx.2.2) (hK _ (Sp.setRow hs hi _))
theorem St.st_shelf (hs : Sp F0 G0 ps G) (hi : ps[i]? = some (RowL id (s.av v_ours v_peers v_shelf))) (h : s.ok) (l : Leaf v_ours ∧ Leaf v_peers ∧ Leaf v_shelf) {x : AVal} (hx : Leaf x) (hK : ∀ G', Sp F0 G0 (ps.set i (RowL id (s.av v_ours v_peers x))) G' → K G') : wg (vstore T G t_sl_api_Slot (.ptr id [15] 112) x) K :=
  wg_of (st1 (RowL.own hs hi) (StM.szl h l) rfl rfl T_sl_api_Slot (fits_leaf hx rfl) (by rw [l.2.2.1, hx.1]) hx.2.2) (hK _ (Sp.setRow hs hi _))
theorem St.st (hs : Sp F0 G0 ps G) (hi : ps[i]? = some (RowL id (s.av v_ours v_peers v_shelf))) (h : s.ok) (l : Leaf v_ours ∧ Leaf v_peers ∧ Leaf v_shelf) {s' : StM} {w_ours w_peers w_shelf : AVal} (h' : s'.ok) (m : Leaf w_ours ∧ Leaf w_peers ∧ Leaf w_shelf) (hK : ∀ G', Sp F0 G0 (ps.set i (RowL id (s'.av w_ours w_peers w_shelf))) G' → K G') : wg (vstore T G t_api_State (.ptr id [] 0) (s'.av w_ours w_peers w_shelf)) K :=
  wg_of (whole_store T_api_State (RowL.own hs hi) (StM.fits h' m) (by rw [StM.sz h l, StM.sz h' m]) (StM.okv m)) (hK _ (Sp.setRow hs hi _))
theorem St.nw {s' : StM} {w_ours w_peers w_shelf : AVal} (hs : Sp F0 G0 ps G) (h' : s'.ok) (m : Leaf w_ours ∧ Leaf w_peers ∧ Leaf w_shelf) {K : AId → Heap → Prop} (hK : ∀ i G', Sp F0 G0 (RowL i (s'.av w_ours w_peers w_shelf) :: ps) G' → K i G') : aNew G (.own z_api_State) fun i G2 => wg (vstore T G2 t_api_State (.ptr i [] 0) (s'.av w_ours w_peers w_shelf)) fun G3 => K i G3 :=
  newVal hs T_api_State (StM.fits h' m) (by rw [StM.sz h' m]; rfl) (StM.okv m) hK
end

end Go.Esc.M

/- Printed by gen_struct.py (own work): the struct Record in a row. -/
set_option linter.unusedSimpArgs false
set_option linter.unusedVariables false
set_option maxRecDepth 20000
namespace Go.Esc.M
open Go Go.Esc

/-! ### Record -/
structure RcM where
  kind : Int
  upd : UpdM
  index : Int
  cntA : Int
  cntB : Int
  sig : List UInt8
  secret : List UInt8
  point : List UInt8
  code : Int
def RcM.cs (s : RcM) (v_upds : AVal) : List AVal := [.int .i64 s.kind, s.upd.av, v_upds, .int .i64 s.index, .agg [.int .i64 s.cntA, .int .i64 s.cntB], .agg (s.sig.map u8v), .agg (s.secret.map u8v), .agg (s.point.map u8v), .int .i64 s.code]
def RcM.av (s : RcM) (v_upds : AVal) : AVal := .agg (s.cs v_upds)
structure RcM.ok (s : RcM) : Prop where
  kind : I64 s.kind
  upd : s.upd.ok
  index : I64 s.index
  cntA : I64 s.cntA
  cntB : I64 s.cntB
  sig : s.sig.length = 32
  secret : s.secret.length = 32
  point : s.point.length = 32
  code : I64 s.code
theorem RcM.szl {s : RcM} {v_upds : AVal} (h : s.ok) (l : Leaf v_upds) : (s.cs v_upds).map Esc.sz = [1, 36, 1, 1, 2, 32, 32, 32, 1] := by
  simp [RcM.cs, Esc.sz, szs, UpdM.sz h.upd, szh h.sig, szh h.secret, szh h.point, l.1]
theorem RcM.sz {s : RcM} {v_upds : AVal} (h : s.ok) (l : Leaf v_upds) : Esc.sz (s.av v_upds) = 138 := by
  have e := RcM.szl h l
  rw [RcM.av, Esc.sz, szs_map, e]; rfl
theorem RcM.okv {s : RcM} {v_upds : AVal} (l : Leaf v_upds) : Esc.okv (s.av v_upds) = true := by
  simp [RcM.av, RcM.cs, Esc.okv, okvs, okvs_u8, l.2.2, UpdM.okv _]
section
variable {F0 : List AId} {G0 G : Heap} {ps : List LP} {i : Nat} {id : AId} {s : RcM} {K : Heap → Prop} {v_upds : AVal} 
theorem Rc.ld_sig (hg : G id = some (.own (s.av v_upds))) (h : s.ok) (l : Leaf v_upds) : vload T G t_api_Hash (.ptr id [5] 41) = some (.agg (s.sig.map u8v)) := ld1 hg (RcM.szl h l) rfl rfl T_api_Hash (fits_hash h.sig)
end

end Go.Esc.M

/- Printed by gen_struct.py (own work): the struct Config in a row. -/
set_option linter.unusedSimpArgs false
set_option linter.unusedVariables false
set_option maxRecDepth 20000
namespace Go.Esc.M
open Go Go.Esc

/-! ### Config -/
structure CfM where
  side : Int
  cap : Int
  ours : Int
  seed : List UInt8
  key : List UInt8
  pkey : List UInt8
  ptsA : List UInt8
  ptsB : List UInt8
  seg : Int
def CfM.cs (s : CfM) : List AVal := [.int .i64 s.side, .int .i64 s.cap, .int .i64 s.ours, .agg (s.seed.map u8v), .agg (s.key.map u8v), .agg (s.pkey.map u8v), .agg [.agg (s.ptsA.map u8v), .agg (s.ptsB.map u8v)], .int .i64 s.seg]
def CfM.av (s : CfM) : AVal := .agg (s.cs )
structure CfM.ok (s : CfM) : Prop where
  side : I64 s.side
  cap : I64 s.cap
  ours : I64 s.ours
  seed : s.seed.length = 32
  key : s.key.length = 32
  pkey : s.pkey.length = 32
  ptsA : s.ptsA.length = 32
  ptsB : s.ptsB.length = 32
  seg : I64 s.seg
theorem CfM.szl {s : CfM} (h : s.ok) : (s.cs ).map Esc.sz = [1, 1, 1, 32, 32, 32, 64, 1] := by
  simp [CfM.cs, Esc.sz, szs, szh h.seed, szh h.key, szh h.pkey, szh h.ptsA, szh h.ptsB]
theorem CfM.sz {s : CfM} (h : s.ok) : Esc.sz (s.av ) = 164 := by
  have e := CfM.szl h 
  rw [CfM.av, Esc.sz, szs_map, e]; rfl
theorem CfM.fits {s : CfM} (h : s.ok) : vfits ti_api_Config (s.av ) = true := by
  have h1 := CfM.sz h 
  have h2 : (s.av ).isAgg = true := rfl
  simp [vfits, h1, h2, ti_api_Config, ADesc.isAgg]
theorem CfM.okv {s : CfM} : Esc.okv (s.av ) = true := by
  simp [CfM.av, CfM.cs, Esc.okv, okvs, okvs_u8]
section
variable {F0 : List AId} {G0 G : Heap} {ps : List LP} {i : Nat} {id : AId} {s : CfM} {K : Heap → Prop} 
theorem Cf.ld_side (hg : G id = some (.own (s.av ))) (h : s.ok) : vload T G t_int (.ptr id [0] 0) = some (.int .i64 s.side) := ld1 hg (CfM.szl h ) rfl rfl T_int rfl
theorem Cf.ld_cap (hg : G id = some (.own (s.av ))) (h : s.ok) : vload T G t_int64 (.ptr id [1] 1) = some (.int .i64 s.cap) := ld1 hg (CfM.szl h ) rfl rfl T_int64 rfl
theorem Cf.ld_ours (hg : G id = some (.own (s.av ))) (h : s.ok) : vload T G t_int64 (.ptr id [2] 2) = some (.int .i64 s.ours) := ld1 hg (CfM.szl h ) rfl rfl T_int64 rfl
theorem Cf.ld_seed (hg : G id = some (.own (s.av ))) (h : s.ok) : vload T G t_api_Hash (.ptr id [3] 3) = some (.agg (s.seed.map u8v)) := ld1 hg (CfM.szl h ) rfl rfl T_api_Hash (fits_hash h.seed)
theorem Cf.ld_key (hg : G id = some (.own (s.av ))) (h : s.ok) : vload T G t_api_Hash (.ptr id [4] 35) = some (.agg (s.key.map u8v)) := ld1 hg (CfM.szl h ) rfl rfl T_api_Hash (fits_hash h.key)
theorem Cf.ld_pts (hg : G id = some (.own (s.av ))) (h : s.ok) : vload T G t_ar2_api_Hash (.ptr id [6] 99) = some (hash2V s.ptsA s.ptsB) := ld1 hg (CfM.szl h ) rfl rfl T_ar2_api_Hash (fits_hash2 h.ptsA h.ptsB)
theorem Cf.ld_ptsA (hg : G id = some (.own (s.av ))) (h : s.ok) : vload T G t_api_Hash (.ptr id [6, 0] 99) = some (.agg (s.ptsA.map u8v)) := ld2 hg (CfM.szl h ) rfl rfl (ss2 := [32, 32]) (by simp [Esc.sz, szh h.ptsA, szh h.ptsB]) rfl rfl rfl T_api_Hash (fits_hash h.ptsA)
theorem Cf.ld_ptsB (hg : G id = some (.own (s.av ))) (h : s.ok) : vload T G t_api_Hash (.ptr id [6, 1] 131) = some (.agg (s.ptsB.map u8v)) := ld2 hg (CfM.szl h ) rfl rfl (ss2 := [32, 32]) (by simp [Esc.sz, szh h.ptsA, szh h.ptsB]) rfl rfl rfl T_api_Hash (fits_hash h.ptsB)
theorem Cf.ld (hg : G id = some (.own (s.av ))) (h : s.ok) : vload T G t_api_Config (.ptr id [] 0) = some (s.av ) := whole_load T_api_Config hg (CfM.fits h )
theorem Cf.st_ours (hs : Sp F0 G0 ps G) (hi : ps[i]? = some (RowL id (s.av ))) (h : s.ok) (x : Int) (hK : ∀ G', Sp F0 G0 (ps.set i (RowL id (({ s with ours := x } : CfM).av ))) G' → K G') : wg (vstore T G t_int64 (.ptr id [2] 2) (.int .i64 x)) K :=
  wg_of (st1 (RowL.own hs hi) (CfM.szl h ) rfl rfl T_int64 rfl rfl rfl) (hK _ (Sp.setRow hs hi _))
theorem Cf.st (hs : Sp F0 G0 ps G) (hi : ps[i]? = some (RowL id (s.av ))) (h : s.ok) {s' : CfM} (h' : s'.ok) (hK : ∀ G', Sp F0 G0 (ps.set i (RowL id (s'.av ))) G' → K G') : wg (vstore T G t_api_Config (.ptr id [] 0) (s'.av )) K :=
  wg_of (whole_store T_api_Config (RowL.own hs hi) (CfM.fits h' ) (by rw [CfM.sz h , CfM.sz h' ]) (CfM.okv )) (hK _ (Sp.setRow hs hi _))
theorem Cf.nw {s' : CfM} (hs : Sp F0 G0 ps G) (h' : s'.ok) {K : AId → Heap → Prop} (hK : ∀ i G', Sp F0 G0 (RowL i (s'.av ) :: ps) G' → K i G') : aNew G (.own z_api_Config) fun i G2 => wg (vstore T G2 t_api_Config (.ptr i [] 0) (s'.av )) fun G3 => K i G3 :=
  newVal hs T_api_Config (CfM.fits h' ) (by rw [CfM.sz h' ]; rfl) (CfM.okv ) hK
end

end Go.Esc.M

/- Printed by gen_struct.py (own work): the struct Deal in a row. -/
set_option linter.unusedSimpArgs false
set_option linter.unusedVariables false
set_option maxRecDepth 20000
namespace Go.Esc.M
open Go Go.Esc

/-! ### Deal -/
structure DlM where
  cap : Int
  ours : Int
  seedsA : List UInt8
  seedsB : List UInt8
  keysA : List UInt8
  keysB : List UInt8
def DlM.cs (s : DlM) : List AVal := [.int .i64 s.cap, .int .i64 s.ours, .agg [.agg (s.seedsA.map u8v), .agg (s.seedsB.map u8v)], .agg [.agg (s.keysA.map u8v), .agg (s.keysB.map u8v)]]
def DlM.av (s : DlM) : AVal := .agg (s.cs )
structure DlM.ok (s : DlM) : Prop where
  cap : I64 s.cap
  ours : I64 s.ours
  seedsA : s.seedsA.length = 32
  seedsB : s.seedsB.length = 32
  keysA : s.keysA.length = 32
  keysB : s.keysB.length = 32
theorem DlM.szl {s : DlM} (h : s.ok) : (s.cs ).map Esc.sz = [1, 1, 64, 64] := by
  simp [DlM.cs, Esc.sz, szs, szh h.seedsA, szh h.seedsB, szh h.keysA, szh h.keysB]
theorem DlM.sz {s : DlM} (h : s.ok) : Esc.sz (s.av ) = 130 := by
  have e := DlM.szl h 
  rw [DlM.av, Esc.sz, szs_map, e]; rfl
theorem DlM.fits {s : DlM} (h : s.ok) : vfits ti_escrowlaw15_Deal (s.av ) = true := by
  have h1 := DlM.sz h 
  have h2 : (s.av ).isAgg = true := rfl
  simp [vfits, h1, h2, ti_escrowlaw15_Deal, ADesc.isAgg]
theorem DlM.okv {s : DlM} : Esc.okv (s.av ) = true := by
  simp [DlM.av, DlM.cs, Esc.okv, okvs, okvs_u8]
section
variable {F0 : List AId} {G0 G : Heap} {ps : List LP} {i : Nat} {id : AId} {s : DlM} {K : Heap → Prop} 
theorem Dl.ld_cap (hg : G id = some (.own (s.av ))) (h : s.ok) : vload T G t_int64 (.ptr id [0] 0) = some (.int .i64 s.cap) := ld1 hg (DlM.szl h ) rfl rfl T_int64 rfl
theorem Dl.ld_ours (hg : G id = some (.own (s.av ))) (h : s.ok) : vload T G t_int64 (.ptr id [1] 1) = some (.int .i64 s.ours) := ld1 hg (DlM.szl h ) rfl rfl T_int64 rfl
theorem Dl.ld_seedsA (hg : G id = some (.own (s.av ))) (h : s.ok) : vload T G t_api_Hash (.ptr id [2, 0] 2) = some (.agg (s.seedsA.map u8v)) := ld2 hg (DlM.szl h ) rfl rfl (ss2 := [32, 32]) (by simp [Esc.sz, szh h.seedsA, szh h.seedsB]) rfl rfl rfl T_api_Hash (fits_hash h.seedsA)
theorem Dl.ld_seedsB (hg : G id = some (.own (s.av ))) (h : s.ok) : vload T G t_api_Hash (.ptr id [2, 1] 34) = some (.agg (s.seedsB.map u8v)) := ld2 hg (DlM.szl h ) rfl rfl (ss2 := [32, 32]) (by simp [Esc.sz, szh h.seedsA, szh h.seedsB]) rfl rfl rfl T_api_Hash (fits_hash h.seedsB)
theorem Dl.ld_keysA (hg : G id = some (.own (s.av ))) (h : s.ok) : vload T G t_api_Hash (.ptr id [3, 0] 66) = some (.agg (s.keysA.map u8v)) := ld2 hg (DlM.szl h ) rfl rfl (ss2 := [32, 32]) (by simp [Esc.sz, szh h.keysA, szh h.keysB]) rfl rfl rfl T_api_Hash (fits_hash h.keysA)
theorem Dl.ld_keysB (hg : G id = some (.own (s.av ))) (h : s.ok) : vload T G t_api_Hash (.ptr id [3, 1] 98) = some (.agg (s.keysB.map u8v)) := ld2 hg (DlM.szl h ) rfl rfl (ss2 := [32, 32]) (by simp [Esc.sz, szh h.keysA, szh h.keysB]) rfl rfl rfl T_api_Hash (fits_hash h.keysB)
theorem Dl.ld (hg : G id = some (.own (s.av ))) (h : s.ok) : vload T G t_escrowlaw15_Deal (.ptr id [] 0) = some (s.av ) := whole_load T_escrowlaw15_Deal hg (DlM.fits h )
theorem Dl.st_ours (hs : Sp F0 G0 ps G) (hi : ps[i]? = some (RowL id (s.av ))) (h : s.ok) (x : Int) (hK : ∀ G', Sp F0 G0 (ps.set i (RowL id (({ s with ours := x } : DlM).av ))) G' → K G') : wg (vstore T G t_int64 (.ptr id [1] 1) (.int .i64 x)) K :=
  wg_of (st1 (RowL.own hs hi) (DlM.szl h ) rfl rfl T_int64 rfl rfl rfl) (hK _ (Sp.setRow hs hi _))
theorem Dl.st (hs : Sp F0 G0 ps G) (hi : ps[i]? = some (RowL id (s.av ))) (h : s.ok) {s' : DlM} (h' : s'.ok) (hK : ∀ G', Sp F0 G0 (ps.set i (RowL id (s'.av ))) G' → K G') : wg (vstore T G t_escrowlaw15_Deal (.ptr id [] 0) (s'.av )) K :=
  wg_of (whole_store T_escrowlaw15_Deal (RowL.own hs hi) (DlM.fits h' ) (by rw [DlM.sz h , DlM.sz h' ]) (DlM.okv )) (hK _ (Sp.setRow hs hi _))
theorem Dl.nw {s' : DlM} (hs : Sp F0 G0 ps G) (h' : s'.ok) {K : AId → Heap → Prop} (hK : ∀ i G', Sp F0 G0 (RowL i (s'.av ) :: ps) G' → K i G') : aNew G (.own z_escrowlaw15_Deal) fun i G2 => wg (vstore T G2 t_escrowlaw15_Deal (.ptr i [] 0) (s'.av )) fun G3 => K i G3 :=
  newVal hs T_escrowlaw15_Deal (DlM.fits h' ) (by rw [DlM.sz h' ]; rfl) (DlM.okv ) hK
end

end Go.Esc.M

/- Own work. Chapter 12: updates written. -/
set_option linter.unusedSimpArgs false
set_option linter.unusedVariables false
set_option maxRecDepth 20000
namespace Go.Esc.M
open Go Go.Esc

theorem valid_spec {u : UpdM} (h : validU u = true) : 0 ≤ u.id ∧ u.id < 2048 ∧ ((u.kind = 1 ∧ 1 ≤ u.amount ∧ u.amount ≤ 1152921504606846976 ∧ u.note = []) ∨ (u.kind = 2 ∧ u.amount = 0 ∧ u.note = []) ∨ (u.kind = 3 ∧ u.amount = 0 ∧ u.hash = h0 ∧ u.note.length ≤ 64)) := by
  unfold validU maxAm at h
  simp only [Bool.and_eq_true, decide_eq_true_eq] at h
  obtain ⟨h1, h2, h3⟩ := h
  refine ⟨h1, h2, ?_⟩
  split at h3
  · simp only [Bool.and_eq_true, decide_eq_true_eq] at h3
    rename_i hk
    exact .inl ⟨hk, h3.1, h3.2.1, h3.2.2⟩
  split at h3
  · simp only [Bool.and_eq_true, decide_eq_true_eq] at h3
    rename_i hk
    exact .inr (.inl ⟨hk, h3.1, h3.2⟩)
  split at h3
  · simp only [Bool.and_eq_true, decide_eq_true_eq] at h3
    rename_i hk
    exact .inr (.inr ⟨hk, h3.1, h3.2.1, h3.2.2⟩)
  · cases h3

section
variable {F0 : List AId} {G0 G : Heap} {ps : List LP} {Q : AVal → Heap → Prop}

end
end Go.Esc.M

/- Own work. Chapter 12: updates read. -/
set_option linter.unusedSimpArgs false
set_option linter.unusedVariables false
set_option maxRecDepth 20000
namespace Go.Esc.M
open Go Go.Esc

def okU (u : UpdM) (n : Nat) : UpdM × Int × Int := bif validU u then (u, (n : Int), 0) else (UpdM.zero, 0, 120)
theorem i64_0 : I64 0 := ⟨by decide, by decide⟩
section
variable {F0 : List AId} {G0 G : Heap} {ps : List LP} {Q : AVal → Heap → Prop}

end
end Go.Esc.M
