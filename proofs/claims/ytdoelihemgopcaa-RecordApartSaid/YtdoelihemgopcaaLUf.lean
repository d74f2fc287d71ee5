import Derived.Test.YtdoelihemgopcaaLRS
import Derived.Test.YtdoelihemgopcaaLDg
import Derived.Test.YtdoelihemgopcaaLCx
/- Printed by gen_struct.py (own work): the struct Record in a row. -/
set_option linter.unusedSimpArgs false
set_option linter.unusedVariables false
set_option maxRecDepth 20000
namespace Go.Esc.M
open Go Go.Esc

/-! ### Record -/
structure RcM where
  kind : Int
  upd : UpdM
  index : Int
  cntA : Int
  cntB : Int
  sig : List UInt8
  secret : List UInt8
  point : List UInt8
  code : Int
  deriving DecidableEq
def RcM.cs (s : RcM) (v_upds : AVal) : List AVal := [.int .i64 s.kind, s.upd.av, v_upds, .int .i64 s.index, .agg [.int .i64 s.cntA, .int .i64 s.cntB], .agg (s.sig.map u8v), .agg (s.secret.map u8v), .agg (s.point.map u8v), .int .i64 s.code]
def RcM.av (s : RcM) (v_upds : AVal) : AVal := .agg (s.cs v_upds)
structure RcM.ok (s : RcM) : Prop where
  kind : I64 s.kind
  upd : s.upd.ok
  index : I64 s.index
  cntA : I64 s.cntA
  cntB : I64 s.cntB
  sig : s.sig.length = 32
  secret : s.secret.length = 32
  point : s.point.length = 32
  code : I64 s.code
theorem RcM.szl {s : RcM} {v_upds : AVal} (h : s.ok) (l : Leaf v_upds) : (s.cs v_upds).map Esc.sz = [1, 36, 1, 1, 2, 32, 32, 32, 1] := by
  simp [RcM.cs, Esc.sz, szs, UpdM.sz h.upd, szh h.sig, szh h.secret, szh h.point, l.1]
theorem RcM.sz {s : RcM} {v_upds : AVal} (h : s.ok) (l : Leaf v_upds) : Esc.sz (s.av v_upds) = 138 := by
  have e := RcM.szl h l
  rw [RcM.av, Esc.sz, szs_map, e]; rfl
theorem RcM.fits {s : RcM} {v_upds : AVal} (h : s.ok) (l : Leaf v_upds) : vfits ti_api_Record (s.av v_upds) = true := by
  have h1 := RcM.sz h l
  have h2 : (s.av v_upds).isAgg = true := rfl
  simp [vfits, h1, h2, ti_api_Record, ADesc.isAgg]
theorem RcM.okv {s : RcM} {v_upds : AVal} (l : Leaf v_upds) : Esc.okv (s.av v_upds) = true := by
  simp [RcM.av, RcM.cs, Esc.okv, okvs, okvs_u8, l.2.2, UpdM.okv _]
section
variable {F0 : List AId} {G0 G : Heap} {ps : List LP} {i : Nat} {id : AId} {s : RcM} {K : Heap → Prop} {v_upds : AVal} 
theorem Rc.ld_kind (hg : G id = some (.own (s.av v_upds))) (h : s.ok) (l : Leaf v_upds) : vload T G t_int (.ptr id [0] 0) = some (.int .i64 s.kind) := ld1 hg (RcM.szl h l) rfl rfl T_int rfl
theorem Rc.ld_upd (hg : G id = some (.own (s.av v_upds))) (h : s.ok) (l : Leaf v_upds) : vload T G t_api_Update (.ptr id [1] 1) = some (s.upd.av) := ld1 hg (RcM.szl h l) rfl rfl T_api_Update (UpdM.fits h.upd)
theorem Rc.ld_upds (hg : G id = some (.own (s.av v_upds))) (h : s.ok) (l : Leaf v_upds) : vload T G t_sl_api_Update (.ptr id [2] 37) = some (v_upds) := ld1 hg (RcM.szl h l) rfl rfl T_sl_api_Update (fits_leaf l rfl)
theorem Rc.ld_index (hg : G id = some (.own (s.av v_upds))) (h : s.ok) (l : Leaf v_upds) : vload T G t_int64 (.ptr id [3] 38) = some (.int .i64 s.index) := ld1 hg (RcM.szl h l) rfl rfl T_int64 rfl
theorem Rc.ld_cnt (hg : G id = some (.own (s.av v_upds))) (h : s.ok) (l : Leaf v_upds) : vload T G t_api_Counts (.ptr id [4] 39) = some (pairW s.cntA s.cntB) := ld1 hg (RcM.szl h l) rfl rfl T_api_Counts rfl
theorem Rc.ld_sig (hg : G id = some (.own (s.av v_upds))) (h : s.ok) (l : Leaf v_upds) : vload T G t_api_Hash (.ptr id [5] 41) = some (.agg (s.sig.map u8v)) := ld1 hg (RcM.szl h l) rfl rfl T_api_Hash (fits_hash h.sig)
theorem Rc.ld_secret (hg : G id = some (.own (s.av v_upds))) (h : s.ok) (l : Leaf v_upds) : vload T G t_api_Hash (.ptr id [6] 73) = some (.agg (s.secret.map u8v)) := ld1 hg (RcM.szl h l) rfl rfl T_api_Hash (fits_hash h.secret)
theorem Rc.ld_point (hg : G id = some (.own (s.av v_upds))) (h : s.ok) (l : Leaf v_upds) : vload T G t_api_Hash (.ptr id [7] 105) = some (.agg (s.point.map u8v)) := ld1 hg (RcM.szl h l) rfl rfl T_api_Hash (fits_hash h.point)
theorem Rc.ld_code (hg : G id = some (.own (s.av v_upds))) (h : s.ok) (l : Leaf v_upds) : vload T G t_int (.ptr id [8] 137) = some (.int .i64 s.code) := ld1 hg (RcM.szl h l) rfl rfl T_int rfl
theorem Rc.ld (hg : G id = some (.own (s.av v_upds))) (h : s.ok) (l : Leaf v_upds) : vload T G t_api_Record (.ptr id [] 0) = some (s.av v_upds) := whole_load T_api_Record hg (RcM.fits h l)
theorem Rc.st_upd (hs : Sp F0 G0 ps G) (hi : ps[i]? = some (RowL id (s.av v_upds))) (h : s.ok) (l : Leaf v_upds) {x : UpdM} (hx : x.ok) (hK : ∀ G', Sp F0 G0 (ps.set i (RowL id (({ s with upd := x } : RcM).av v_upds))) G' → K G') : wg (vstore T G t_api_Update (.ptr id [1] 1) x.av) K :=
  wg_of (st1 (RowL.own hs hi) (RcM.szl h l) rfl rfl T_api_Update (UpdM.fits hx) (by rw [UpdM.sz hx, UpdM.sz h.upd]) (UpdM.okv _)) (hK _ (Sp.setRow hs hi _))
theorem Rc.st_upds (hs : Sp F0 G0 ps G) (hi : ps[i]? = some (RowL id (s.av v_upds))) (h : s.ok) (l : Leaf v_upds) {x : AVal} (hx : Leaf x) (hK : ∀ G', Sp F0 G0 (ps.set i (RowL id (s.av x))) G' → K G') : wg (vstore T G t_sl_api_Update (.ptr id [2] 37) x) K :=
  wg_of (st1 (RowL.own hs hi) (RcM.szl h l) rfl rfl T_sl_api_Update (fits_leaf hx rfl) (by rw [l.1, hx.1]) hx.2.2) (hK _ (Sp.setRow hs hi _))
theorem Rc.st_index (hs : Sp F0 G0 ps G) (hi : ps[i]? = some (RowL id (s.av v_upds))) (h : s.ok) (l : Leaf v_upds) (x : Int) (hK : ∀ G', Sp F0 G0 (ps.set i (RowL id (({ s with index := x } : RcM).av v_upds))) G' → K G') : wg (vstore T G t_int64 (.ptr id [3] 38) (.int .i64 x)) K :=
  wg_of (st1 (RowL.own hs hi) (RcM.szl h l) rfl rfl T_int64 rfl rfl rfl) (hK _ (Sp.setRow hs hi _))
theorem Rc.st_cntA (hs : Sp F0 G0 ps G) (hi : ps[i]? = some (RowL id (s.av v_upds))) (h : s.ok) (l : Leaf v_upds) (x : Int) (hK : ∀ G', Sp F0 G0 (ps.set i (RowL id (({ s with cntA := x } : RcM).av v_upds))) G' → K G') : wg (vstore T G t_int (.ptr id [4, 0] 39) (.int .i64 x)) K :=
  wg_of (st2 (RowL.own hs hi) (RcM.szl h l) rfl rfl (ss2 := [1, 1]) rfl rfl rfl rfl T_int rfl rfl rfl) (hK _ (Sp.setRow hs hi _))
theorem Rc.st_cntB (hs : Sp F0 G0 ps G) (hi : ps[i]? = some (RowL id (s.av v_upds))) (h : s.ok) (l : Leaf v_upds) (x : Int) (hK : ∀ G', Sp F0 G0 (ps.set i (RowL id (({ s with cntB := x } : RcM).av v_upds))) G' → K G') : wg (vstore T G t_int (.ptr id [4, 1] 40) (.int .i64 x)) K :=
  wg_of (st2 (RowL.own hs hi) (RcM.szl h l) rfl rfl (ss2 := [1, 1]) rfl rfl rfl rfl T_int rfl rfl rfl) (hK _ (Sp.setRow hs hi _))
theorem Rc.st_sig (hs : Sp F0 G0 ps G) (hi : ps[i]? = some (RowL id (s.av v_upds))) (h : s.ok) (l : Leaf v_upds) {x : List UInt8} (hx : x.length = 32) (hK : ∀ G', Sp F0 G0 (ps.set i (RowL id (({ s with sig := x } : RcM).av v_upds))) G' → K G') : wg (vstore T G t_api_Hash (.ptr id [5] 41) (.agg (x.map u8v))) K :=
  wg_of (st1 (RowL.own hs hi) (RcM.szl h l) rfl rfl T_api_Hash (fits_hash hx) (by simp [Esc.sz, szh hx, szh h.sig]) (by simp [Esc.okv, okvs_u8])) (hK _ (Sp.setRow hs hi _))
theorem Rc.st_secret (hs : Sp F0 G0 ps G) (hi : ps[i]? = some (RowL id (s.av v_upds))) (h : s.ok) (l : Leaf v_upds) {x : List UInt8} (hx : x.length = 32) (hK : ∀ G', Sp F0 G0 (ps.set i (RowL id (({ s with secret := x } : RcM).av v_upds))) G' → K G') : wg (vstore T G t_api_Hash (.ptr id [6] 73) (.agg (x.map u8v))) K :=
  wg_of (st1 (RowL.own hs hi) (RcM.szl h l) rfl rfl T_api_Hash (fits_hash hx) (by simp [Esc.sz, szh hx, szh h.secret]) (by simp [Esc.okv, okvs_u8])) (hK _ (Sp.setRow hs hi _))
theorem Rc.st_point (hs : Sp F0 G0 ps G) (hi : ps[i]? = some (RowL id (s.av v_upds))) (h : s.ok) (l : Leaf v_upds) {x : List UInt8} (hx : x.length = 32) (hK : ∀ G', Sp F0 G0 (ps.set i (RowL id (({ s with point := x } : RcM).av v_upds))) G' → K G') : wg (vstore T G t_api_Hash (.ptr id [7] 105) (.agg (x.map u8v))) K :=
  wg_of (st1 (RowL.own hs hi) (RcM.szl h l) rfl rfl T_api_Hash (fits_hash hx) (by simp [Esc.sz, szh hx, szh h.point]) (by simp [Esc.okv, okvs_u8])) (hK _ (Sp.setRow hs hi _))
theorem Rc.st_code (hs : Sp F0 G0 ps G) (hi : ps[i]? = some (RowL id (s.av v_upds))) (h : s.ok) (l : Leaf v_upds) (x : Int) (hK : ∀ G', Sp F0 G0 (ps.set i (RowL id (({ s with code := x } : RcM).av v_upds))) G' → K G') : wg (vstore T G t_int (.ptr id [8] 137) (.int .i64 x)) K :=
  wg_of (st1 (RowL.own hs hi) (RcM.szl h l) rfl rfl T_int rfl rfl rfl) (hK _ (Sp.setRow hs hi _))
theorem Rc.st (hs : Sp F0 G0 ps G) (hi : ps[i]? = some (RowL id (s.av v_upds))) (h : s.ok) (l : Leaf v_upds) {s' : RcM} {w_upds : AVal} (h' : s'.ok) (m : Leaf w_upds) (hK : ∀ G', Sp F0 G0 (ps.set i (RowL id (s'.av w_upds))) G' → K G') : wg (vstore T G t_api_Record (.ptr id [] 0) (s'.av w_upds)) K :=
  wg_of (whole_store T_api_Record (RowL.own hs hi) (RcM.fits h' m) (by rw [RcM.sz h l, RcM.sz h' m]) (RcM.okv m)) (hK _ (Sp.setRow hs hi _))
theorem Rc.nw {s' : RcM} {w_upds : AVal} (hs : Sp F0 G0 ps G) (h' : s'.ok) (m : Leaf w_upds) {K : AId → Heap → Prop} (hK : ∀ i G', Sp F0 G0 (RowL i (s'.av w_upds) :: ps) G' → K i G') : aNew G (.own z_api_Record) fun i G2 => wg (vstore T G2 t_api_Record (.ptr i [] 0) (s'.av w_upds)) fun G3 => K i G3 :=
  newVal hs T_api_Record (RcM.fits h' m) (by rw [RcM.sz h' m]; rfl) (RcM.okv m) hK
end

end Go.Esc.M

/- Printed by gen_struct.py (own work): the struct Config in a row. -/
set_option linter.unusedSimpArgs false
set_option linter.unusedVariables false
set_option maxRecDepth 20000
namespace Go.Esc.M
open Go Go.Esc

/-! ### Config -/
structure CfM where
  side : Int
  cap : Int
  ours : Int
  seed : List UInt8
  key : List UInt8
  pkey : List UInt8
  ptsA : List UInt8
  ptsB : List UInt8
  seg : Int
def CfM.cs (s : CfM) : List AVal := [.int .i64 s.side, .int .i64 s.cap, .int .i64 s.ours, .agg (s.seed.map u8v), .agg (s.key.map u8v), .agg (s.pkey.map u8v), .agg [.agg (s.ptsA.map u8v), .agg (s.ptsB.map u8v)], .int .i64 s.seg]
def CfM.av (s : CfM) : AVal := .agg (s.cs )
structure CfM.ok (s : CfM) : Prop where
  side : I64 s.side
  cap : I64 s.cap
  ours : I64 s.ours
  seed : s.seed.length = 32
  key : s.key.length = 32
  pkey : s.pkey.length = 32
  ptsA : s.ptsA.length = 32
  ptsB : s.ptsB.length = 32
  seg : I64 s.seg
theorem CfM.szl {s : CfM} (h : s.ok) : (s.cs ).map Esc.sz = [1, 1, 1, 32, 32, 32, 64, 1] := by
  simp [CfM.cs, Esc.sz, szs, szh h.seed, szh h.key, szh h.pkey, szh h.ptsA, szh h.ptsB]
theorem CfM.sz {s : CfM} (h : s.ok) : Esc.sz (s.av ) = 164 := by
  have e := CfM.szl h 
  rw [CfM.av, Esc.sz, szs_map, e]; rfl
theorem CfM.okv {s : CfM} : Esc.okv (s.av ) = true := by
  simp [CfM.av, CfM.cs, Esc.okv, okvs, okvs_u8]
section
variable {F0 : List AId} {G0 G : Heap} {ps : List LP} {i : Nat} {id : AId} {s : CfM} {K : Heap → Prop} 
theorem Cf.ld_ours (hg : G id = some (.own (s.av ))) (h : s.ok) : vload T G t_int64 (.ptr id [2] 2) = some (.int .i64 s.ours) := ld1 hg (CfM.szl h ) rfl rfl T_int64 rfl
theorem Cf.ld_ptsB (hg : G id = some (.own (s.av ))) (h : s.ok) : vload T G t_api_Hash (.ptr id [6, 1] 131) = some (.agg (s.ptsB.map u8v)) := ld2 hg (CfM.szl h ) rfl rfl (ss2 := [32, 32]) (by simp [Esc.sz, szh h.ptsA, szh h.ptsB]) rfl rfl rfl T_api_Hash (fits_hash h.ptsB)
theorem Cf.st_ours (hs : Sp F0 G0 ps G) (hi : ps[i]? = some (RowL id (s.av ))) (h : s.ok) (x : Int) (hK : ∀ G', Sp F0 G0 (ps.set i (RowL id (({ s with ours := x } : CfM).av ))) G' → K G') : wg (vstore T G t_int64 (.ptr id [2] 2) (.int .i64 x)) K :=
  wg_of (st1 (RowL.own hs hi) (CfM.szl h ) rfl rfl T_int64 rfl rfl rfl) (hK _ (Sp.setRow hs hi _))
theorem Cf.st_pts (hs : Sp F0 G0 ps G) (hi : ps[i]? = some (RowL id (s.av ))) (h : s.ok) {x y : List UInt8} (hx : x.length = 32) (hy : y.length = 32) (hK : ∀ G', Sp F0 G0 (ps.set i (RowL id (({ s with ptsA := x, ptsB := y } : CfM).av ))) G' → K G') : wg (vstore T G t_ar2_api_Hash (.ptr id [6] 99) (hash2V x y)) K :=
  wg_of (st1 (RowL.own hs hi) (CfM.szl h ) rfl rfl T_ar2_api_Hash (fits_hash2 hx hy) (by simp [hash2V, Esc.sz, szs, szh hx, szh hy, szh h.ptsA, szh h.ptsB]) (by simp [hash2V, Esc.okv, okvs, okvs_u8])) (hK _ (Sp.setRow hs hi _))
end

end Go.Esc.M

/- Own work. Chapter 12: updates written. -/
set_option linter.unusedSimpArgs false
set_option linter.unusedVariables false
set_option maxRecDepth 20000
namespace Go.Esc.M
open Go Go.Esc

def tailU (u : UpdM) : List UInt8 := if u.kind = 1 then be 8 (bits64 u.amount) ++ u.hash else if u.kind = 2 then u.hash else be 2 u.note.length ++ u.note
def bytesU (u : UpdM) : List UInt8 := be 1 u.kind.toNat ++ (be 2 u.id.toNat ++ tailU u)
def writeR (u : UpdM) : List UInt8 × Int := bif validU u then (bytesU u, 0) else ([], 120)

theorem valid_spec {u : UpdM} (h : validU u = true) : 0 ≤ u.id ∧ u.id < 2048 ∧ ((u.kind = 1 ∧ 1 ≤ u.amount ∧ u.amount ≤ 1152921504606846976 ∧ u.note = []) ∨ (u.kind = 2 ∧ u.amount = 0 ∧ u.note = []) ∨ (u.kind = 3 ∧ u.amount = 0 ∧ u.hash = h0 ∧ u.note.length ≤ 64)) := by
  unfold validU maxAm at h
  simp only [Bool.and_eq_true, decide_eq_true_eq] at h
  obtain ⟨h1, h2, h3⟩ := h
  refine ⟨h1, h2, ?_⟩
  split at h3
  · simp only [Bool.and_eq_true, decide_eq_true_eq] at h3
    rename_i hk
    exact .inl ⟨hk, h3.1, h3.2.1, h3.2.2⟩
  split at h3
  · simp only [Bool.and_eq_true, decide_eq_true_eq] at h3
    rename_i hk
    exact .inr (.inl ⟨hk, h3.1, h3.2⟩)
  split at h3
  · simp only [Bool.and_eq_true, decide_eq_true_eq] at h3
    rename_i hk
    exact .inr (.inr ⟨hk, h3.1, h3.2.1, h3.2.2⟩)
  · cases h3

theorem laidText_ok {bs s : List UInt8} (h : s.length ≤ 65535) : laidText (bs, 0) s = laid (bs, 0) (be 2 s.length ++ s) := by
  unfold laidText laid
  simp [h]

section
variable {F0 : List AId} {G0 G : Heap} {ps : List LP} {Q : AVal → Heap → Prop}

theorem u16_conv (n : Int) (h0 : 0 ≤ n) (h1 : n ≤ 65535) : vconv T G t_int64 t_uint16 (.int .i64 n) = some (.int .u16 (n.toNat : Nat)) := by
  rw [vconv_int T_int64 T_uint16 rfl, u16_in h0 h1]
  congr 2
  omega

theorem slice_upd {i : AId} {u : UpdM} (h : u.ok) (hg : G i = some (.own u.av)) : ∃ x, vslice T t_api_Hash (.ptr i [3] 3) none none none = some x ∧ IsSl 1 G x (u.hash.map u8v) := by
  have e1 : T t_api_Hash = some ti_api_Hash := T_api_Hash
  have e2 : ti_api_Hash.desc = .array 32 t_uint8 := rfl
  refine ⟨.slice i [3] 0 3 32 32, by simp [vslice, e1, e2, T_uint8, sbounds, sbound, ti_uint8], .inl ⟨_, _, _, _, _, _, rfl, ?_⟩⟩
  have hh := h.hash
  have ha : arrAt G 1 i [3] 0 3 = some (u.hash.map u8v) := by
    simp [arrAt, vsub, hg, treeOf, UpdM.av, UpdM.cs, sub, szs, Esc.sz, uni_u8]
  rw [selems, ha]
  simp [hh, List.take_of_length_le]

set_option maxHeartbeats 1000000 in
theorem update_Write.use {u : UpdM} (h : u.ok) (hQ : ∀ G', Ch [] G [] G' → Q (.tuple [.str (writeR u).1, .int .i64 (writeR u).2]) G') : ACalls P update_Write.n [u.av] G Q := by
  refine update_Write.sound ?_
  unfold update_Write.S
  intro i1 f1
  have s1 := (Sp.nil G).row f1 u.av
  refine wv_of (upd_load (i := 0) s1 rfl h).2.2.2.2.2 ?_
  refine update_Valid.use h fun G5 c5 => ?_
  have s5 := s1.tmp c5
  rw [vun_not, wv_some]
  unfold writeR at hQ
  cases hv : validU u with
  | false =>
    rw [hv] at hQ
    exact hQ _ s5.ch
  | true =>
    rw [hv] at hQ
    simp only [cond_true] at hQ
    rw [Bool.not_true, brB_false]
    obtain ⟨hi0, hi1, hk⟩ := valid_spec hv
    have hkr : 1 ≤ u.kind ∧ u.kind ≤ 3 := by omega
    refine cursor_New.use fun iw G8 w8 c8 => ?_
    have s8 := s5.new (p := WrL iw [] 0) w8 c8
    refine wv_of (upd_load (i := 1) s8 rfl h).1 ?_
    refine wv_of (u8_conv u.kind (by omega) (by omega)) ?_
    refine wr (i := 0) s8 rfl (fun h k => cursor_Writer_U8.use (by omega) h (by simp) k) fun G12 s12 => ?_
    refine wv_of (upd_load (i := 1) s12 rfl h).2.1 ?_
    refine wv_of (u16_conv u.id (by omega) (by omega)) ?_
    refine wr (i := 0) s12 rfl (fun h k => cursor_Writer_U16.use (by omega) h (by simp [length_be]) k) fun G16 s16 => ?_
    refine wv_of (upd_load (i := 1) s16 rfl h).1 ?_
    intro J41
    have out : ∀ G' bs, Sp [] G [WrL iw bs 0, RowL i1 u.av] G' → bs = bytesU u → J41 G' := by
      intro G' bs hs hb
      simp -zeta only [J41]
      obtain ⟨F, hw⟩ := hs.get (i := 0) rfl
      refine cursor_Writer_Out.use (st := (bs, 0)) hw ?_
      rw [vext0, wv_some, vext1, wv_some, if_pos rfl, hb]
      exact hQ _ hs.ch
    have s16 : Sp [] G [WrL iw ([] ++ be 1 u.kind.toNat ++ be 2 u.id.toNat) 0, RowL i1 u.av] G16 := s16
    rw [vbin_eql, wv_some, brB_dec]
    refine ⟨fun hk1 => ?_, fun hk1 => ?_⟩
    · refine wv_of (upd_load (i := 1) s16 rfl h).2.2.1 ?_
      refine wr (i := 0) s16 rfl (fun h k => cursor_Writer_I64.use h (by simp [length_be]) k) fun G21 s21 => ?_
      refine wv_of (upd_load (i := 1) s21 rfl h).2.2.2.1 ?_
      refine wr (i := 0) s21 rfl (fun hh k => cursor_Writer_Hash.use h.hash hh (by simp [length_be]) k) fun G24 s24 => ?_
      exact out _ _ s24 (by simp [bytesU, tailU, hk1])
    rw [vbin_eql, wv_some, brB_dec]
    refine ⟨fun hk2 => ?_, fun hk2 => ?_⟩
    · refine wv_of (upd_load (i := 1) s16 rfl h).2.2.2.1 ?_
      refine wr (i := 0) s16 rfl (fun hh k => cursor_Writer_Hash.use h.hash hh (by simp [length_be]) k) fun G24 s24 => ?_
      exact out _ _ s24 (by simp [bytesU, tailU, hk2])
    rw [vbin_eql, wv_some, brB_dec]
    refine ⟨fun hk3 => ?_, fun hk3 => absurd (by omega) hk3⟩
    have hn : u.note.length ≤ 64 := by
      rcases hk with hk | hk | hk
      · omega
      · omega
      · exact hk.2.2.2
    refine wv_of (upd_load (i := 1) s16 rfl h).2.2.2.2.1 ?_
    refine wr (i := 0) (xs := be 2 u.note.length ++ u.note) s16 rfl (fun hh k => cursor_Writer_Text.use hh (by simp [length_be]; omega) (by rw [laidText_ok (by omega)]; exact k)) fun G32 s32 => ?_
    exact out _ _ s32 (by simp [bytesU, tailU, hk1, hk2])

end
end Go.Esc.M

/- Own work. Chapter 12: updates read. -/
set_option linter.unusedSimpArgs false
set_option linter.unusedVariables false
set_option maxRecDepth 20000
namespace Go.Esc.M
open Go Go.Esc

def okU (u : UpdM) (n : Nat) : UpdM × Int × Int := bif validU u then (u, (n : Int), 0) else (UpdM.zero, 0, 120)
def idU (b : List UInt8) : Int := ((num (slice b 1 2) : Nat) : Int)
/-- What bytes begin with: an update, its length, the fault. -/
def readU (b : List UInt8) : UpdM × Int × Int :=
  if b = [] then (UpdM.zero, 0, 2)
  else if num (slice b 0 1) = 1 then (if b.length < 43 then (UpdM.zero, 0, 2) else okU ⟨1, idU b, IntKind.i64.wrap (num (slice b 3 8) : Nat), slice b 11 32, []⟩ 43)
  else if num (slice b 0 1) = 2 then (if b.length < 35 then (UpdM.zero, 0, 2) else okU ⟨2, idU b, 0, slice b 3 32, []⟩ 35)
  else if num (slice b 0 1) = 3 then (if b.length < 5 then (UpdM.zero, 0, 2) else if 64 < num (slice b 3 2) then (UpdM.zero, 0, 120) else if b.length < 5 + num (slice b 3 2) then (UpdM.zero, 0, 2)
    else okU ⟨3, idU b, 0, h0, slice b 5 (num (slice b 3 2))⟩ (5 + num (slice b 3 2)))
  else (UpdM.zero, 0, 120)

theorem mkok {k i a : Int} {h n : List UInt8} (hk : I64 k) (hi : I64 i) (ha : I64 a) (hh : h.length = 32) (hn : n.length ≤ 9223372036854775807) : (⟨k, i, a, h, n⟩ : UpdM).ok := ⟨hk, hi, ha, hh, hn⟩
theorem i64_0 : I64 0 := ⟨by decide, by decide⟩
theorem i64_small {n : Int} (h0 : 0 ≤ n) (h1 : n ≤ 65536) : I64 n := ⟨by omega, by omega⟩
theorem tk {b : List UInt8} {a n : Nat} {nn : Int} (hn : nn = (n : Int)) (ha : a ≤ b.length) : takes (b.drop a, 0) nn = if a + n ≤ b.length then (slice b a n, (b.drop (a + n), 0)) else ([], ([], 2)) := by
  by_cases h : a + n ≤ b.length
  · rw [if_pos h, takes_at hn h]
  · rw [if_neg h, takes_short (by rw [List.length_drop]; omega)]
theorem tkb {nn : Int} : takes ([], 2) nn = ([], ([], 2)) := takes_broken (by decide)
theorem zUpd : z_api_Update = UpdM.zero.av := rfl
theorem build_kind {n : Int} : vbuild T t_api_Update [(0, .int .i64 n)] = some ({ UpdM.zero with kind := n } : UpdM).av := rfl
theorem build_none : vbuild T t_api_Update [] = some UpdM.zero.av := rfl
theorem num2_lt {b : List UInt8} {a : Nat} : num (slice b a 2) < 65536 := num_lt_of (k := 2) (List.length_take_le _ _)

section
variable {F0 : List AId} {G0 G : Heap} {ps : List LP} {Q : AVal → Heap → Prop}

theorem update_fault.use {e : Int} (hQ : Q (.int .i64 (if e = 3 then 120 else e)) G) : ACalls P update_fault.n [.int .i64 e] G Q := by
  refine update_fault.sound ?_
  unfold update_fault.S
  rw [vbin_eql, wv_some, brB_dec]
  exact ⟨fun h => by rwa [if_pos h] at hQ, fun h => by rwa [if_neg h] at hQ⟩

def tupU (x : UpdM × Int × Int) : AVal := .tuple [x.1.av, .int .i64 x.2.1, .int .i64 x.2.2]

set_option maxHeartbeats 2000000 in
theorem update_Read.use {b : List UInt8} (hbl : b.length ≤ 9223372036854775807) (hQ : ∀ G', Ch [] G [] G' → Q (tupU (readU b)) G') : ACalls P update_Read.n [.str b] G Q := by
  refine update_Read.sound ?_
  unfold update_Read.S
  rw [zUpd]
  intro i1 f1
  have s1 := (Sp.nil G).row f1 UpdM.zero.av
  refine cursor_Open.use fun ir G4 r4 c4 => ?_
  have s4 := s1.new (p := RdL ir (b, 0)) ⟨r4, rfl⟩ c4
  obtain ⟨st1, hst1⟩ : ∃ s, s = takes (b, 0) 1 := ⟨_, rfl⟩
  have hk8 : num st1.1 < 256 := num_lt_of (k := 1) (by rw [hst1]; exact length_takes _)
  refine rd (i := 0) s4 rfl (fun h k => cursor_Reader_U8.use h k) fun G6 s6 => ?_
  rw [← hst1] at s6 ⊢
  obtain ⟨kd, hkd⟩ : ∃ k, k = ((num st1.1 : Nat) : Int) := ⟨_, rfl⟩
  rw [vconv_int T_uint8 T_int rfl, i64_in (by omega) (by omega), wv_some, build_kind, wv_some, ← hkd]
  intro i9 f9
  have s9 := s6.row f9 UpdM.zero.av
  have hkr : 0 ≤ kd ∧ kd < 256 := by omega
  have hu0 : ({ UpdM.zero with kind := kd } : UpdM).ok := mkok (i64_small (by omega) (by omega)) i64_0 i64_0 rfl (by decide : (0 : Nat) ≤ 9223372036854775807)
  refine upd_store (i := 0) s9 rfl UpdM.zero_ok hu0 fun G11 s11 => ?_
  have s11 : Sp [] G [RowL i9 ({ UpdM.zero with kind := kd } : UpdM).av, RdL ir st1.2, RowL i1 UpdM.zero.av] G11 := s11
  intro J72
  have bad : ∀ G', Sp [] G [RowL i9 ({ UpdM.zero with kind := kd } : UpdM).av, RdL ir st1.2, RowL i1 UpdM.zero.av] G' → readU b = (UpdM.zero, 0, 120) → J72 (.bool true) G' := by
    intro G19 s19 hr
    simp -zeta only [J72, brB_true]
    rw [build_none, wv_some]
    refine upd_store (i := 2) s19 rfl UpdM.zero_ok UpdM.zero_ok fun G22 s22 => ?_
    refine wv_of (upd_load (i := 2) s22 rfl UpdM.zero_ok).2.2.2.2.2 ?_
    have := hQ _ s22.ch
    rwa [hr] at this
  have good : (st1.2.2 = 0 → 1 ≤ kd ∧ kd ≤ 3) → J72 (.bool false) G11 := by
    intro hk13
    simp -zeta only [J72, brB_false]
    obtain ⟨st2, hst2⟩ : ∃ s, s = takes st1.2 2 := ⟨_, rfl⟩
    have hid : num st2.1 < 65536 := num_lt_of (k := 2) (by rw [hst2]; exact length_takes _)
    refine rd (i := 1) s11 rfl (fun h k => cursor_Reader_U16.use h k) fun G25 s25 => ?_
    rw [← hst2] at s25 ⊢
    rw [vconv_int T_uint16 T_int64 rfl, i64_in (by omega) (by omega), wv_some]
    obtain ⟨ide, hide⟩ : ∃ k, k = ((num st2.1 : Nat) : Int) := ⟨_, rfl⟩
    rw [← hide]
    refine upd_id ide (i := 0) s25 rfl fun G27 s27 => ?_
    have s27 : Sp [] G [RowL i9 (⟨kd, ide, 0, h0, []⟩ : UpdM).av, RdL ir st2.2, RowL i1 UpdM.zero.av] G27 := s27
    have hu1 : (⟨kd, ide, 0, h0, []⟩ : UpdM).ok := mkok (i64_small (by omega) (by omega)) (i64_small (by omega) (by omega)) i64_0 rfl (by decide : (0 : Nat) ≤ 9223372036854775807)
    refine wv_of (upd_load (i := 0) s27 rfl hu1).1 ?_
    intro J71
    have h71 : ∀ (G' : Heap) (u : UpdM) (st : List UInt8 × Int), Sp [] G [RowL i9 u.av, RdL ir st, RowL i1 UpdM.zero.av] G' → u.ok → st.1.length ≤ b.length → (st.2 ≠ 0 → readU b = (UpdM.zero, 0, if st.2 = 3 then 120 else st.2)) →
        (st.2 = 0 → readU b = okU u (b.length - st.1.length)) → J71 G' := by
      intro G47 u st hs hu hle h1 h2
      simp -zeta only [J71]
      refine cursor_Reader_Err.use (RdL.rd (i := 1) hs rfl) ?_
      rw [vbin_neq, wv_some, brB_ndec]
      refine ⟨fun hne => ?_, fun hz => ?_⟩
      · rw [build_none, wv_some]
        refine update_fault.use ?_
        refine upd_store (i := 2) hs rfl UpdM.zero_ok UpdM.zero_ok fun G54 s54 => ?_
        refine wv_of (upd_load (i := 2) s54 rfl UpdM.zero_ok).2.2.2.2.2 ?_
        have := hQ _ s54.ch
        rwa [h1 hne] at this
      · have h2 := h2 hz
        refine wv_of (upd_load (i := 0) hs rfl hu).2.2.2.2.2 ?_
        refine update_Valid.use hu fun G58 c58 => ?_
        have s58 := hs.tmp c58
        rw [vun_not, wv_some]
        unfold okU at h2
        cases hv : validU u with
        | false =>
          rw [hv] at h2
          rw [Bool.not_false, brB_true, build_none, wv_some]
          refine upd_store (i := 2) s58 rfl UpdM.zero_ok UpdM.zero_ok fun G54 s54 => ?_
          refine wv_of (upd_load (i := 2) s54 rfl UpdM.zero_ok).2.2.2.2.2 ?_
          have := hQ _ s54.ch
          rwa [h2] at this
        | true =>
          rw [hv] at h2
          rw [Bool.not_true, brB_false]
          refine wv_of (upd_load (i := 0) s58 rfl hu).2.2.2.2.2 ?_
          show wv (some (.int .i64 (b.length : Nat))) _
          rw [wv_some]
          refine cursor_Reader_Rest.use (RdL.rd (i := 1) s58 rfl) ?_
          refine ⟨⟨(upd_load (i := 0) s58 rfl hu).2.2.2.2.2, trivial⟩, ?_⟩
          show wv (some (.int .i64 (st.1.length : Nat))) _
          rw [wv_some, vbin_sub, wv_some, i64_in (by omega) (by omega)]
          refine upd_store (i := 2) s58 rfl UpdM.zero_ok hu fun G69 s69 => ?_
          refine wv_of (upd_load (i := 2) s69 rfl hu).2.2.2.2.2 ?_
          have := hQ _ s69.ch
          rw [h2] at this
          rw [show ((b.length : Nat) : Int) - ((st.1.length : Nat) : Int) = ((b.length - st.1.length : Nat) : Int) by omega]
          exact this
    have hle2 : ∀ (st : List UInt8 × Int) (n : Int), st.1.length ≤ b.length → (takes st n).2.1.length ≤ b.length := fun st n h => by
      unfold takes
      split
      · split
        · simp
        · rw [List.length_drop]; omega
      · exact h
    by_cases hb : b = []
    · have e1 : st1 = ([], ([], 2)) := by rw [hst1, hb]; exact takes_short (by decide)
      have e2 : st2 = ([], ([], 2)) := by rw [hst2, e1]; exact tkb
      have e3 : kd = 0 := by rw [hkd, e1]; rfl
      rw [vbin_eql, wv_some, brB_dec]
      refine ⟨fun h => absurd h (by dsimp only; omega), fun _ => ?_⟩
      rw [vbin_eql, wv_some, brB_dec]
      refine ⟨fun h => absurd h (by dsimp only; omega), fun _ => ?_⟩
      rw [vbin_eql, wv_some, brB_dec]
      refine ⟨fun h => absurd h (by dsimp only; omega), fun _ => ?_⟩
      refine h71 _ _ _ s27 hu1 (by rw [e2]; simp) (fun _ => ?_) fun h => absurd h (by rw [e2]; decide)
      rw [e2]
      unfold readU
      rw [if_pos hb]
      rfl
    have hb1 : 1 ≤ b.length := by
      cases b with
      | nil => exact absurd rfl hb
      | cons x b => simp
    have e1 : st1 = (slice b 0 1, (b.drop 1, 0)) := by
      rw [hst1]
      have := tk (b := b) (a := 0) (n := 1) (nn := 1) rfl (by omega)
      rw [List.drop_zero, if_pos (by omega)] at this
      exact this
    have e2 : st2 = if 3 ≤ b.length then (slice b 1 2, (b.drop 3, 0)) else ([], ([], 2)) := by
      rw [hst2, e1]
      exact tk (a := 1) (n := 2) rfl hb1
    have hkk : kd = ((num (slice b 0 1) : Nat) : Int) := by rw [hkd, e1]
    obtain ⟨hk1, hk3⟩ := hk13 (by rw [e1])
    have hle : st2.2.1.length ≤ b.length := by rw [hst2]; exact hle2 _ _ (by rw [e1, List.length_drop]; omega)
    rw [vbin_eql, wv_some, brB_dec]
    dsimp only
    refine ⟨fun hk => ?_, fun hkn1 => ?_⟩
    · obtain ⟨st3, hst3⟩ : ∃ s, s = takes st2.2 8 := ⟨_, rfl⟩
      refine rd (i := 1) s27 rfl (fun h k => cursor_Reader_I64.use h k) fun G31 s31 => ?_
      rw [← hst3] at s31 ⊢
      refine upd_amount _ (i := 0) s31 rfl fun G32 s32 => ?_
      obtain ⟨st4, hst4⟩ : ∃ s, s = takes st3.2 32 := ⟨_, rfl⟩
      refine rd (i := 1) s32 rfl (fun h k => cursor_Reader_Hash.use h k) fun G33 s33 => ?_
      rw [← hst4] at s33 ⊢
      have hl4 : (fill 32 st4.1).length = 32 := length_fill (by rw [hst4]; exact length_takes _)
      have hu2 : (⟨kd, ide, IntKind.i64.wrap (num st3.1 : Nat), h0, []⟩ : UpdM).ok := mkok hu1.kind hu1.id (hw64 _) rfl (by decide : (0 : Nat) ≤ 9223372036854775807)
      refine upd_hash hl4 hu2 (i := 0) s33 rfl fun G35 s35 => ?_
      have hu3 : (⟨kd, ide, IntKind.i64.wrap (num st3.1 : Nat), fill 32 st4.1, []⟩ : UpdM).ok := mkok hu1.kind hu1.id (hw64 _) hl4 (by decide : (0 : Nat) ≤ 9223372036854775807)
      have hkn : num (slice b 0 1) = 1 := by omega
      refine h71 _ ⟨kd, ide, IntKind.i64.wrap (num st3.1 : Nat), fill 32 st4.1, []⟩ _ s35 hu3 (by rw [hst4]; exact hle2 _ _ (by rw [hst3]; exact hle2 _ _ hle)) (fun hne => ?_) fun hz => ?_
      · unfold readU
        rw [if_neg hb, if_pos hkn]
        by_cases h43 : b.length < 43
        · rw [if_pos h43]
          have : st4.2.2 = 2 := by
            by_cases h3 : 3 ≤ b.length
            · rw [if_pos h3] at e2
              have e3 := tk (b := b) (a := 3) (n := 8) (nn := 8) rfl h3
              by_cases h11 : 11 ≤ b.length
              · rw [if_pos (by omega)] at e3
                rw [hst4, hst3, e2, e3, tk (b := b) (a := 3 + 8) (n := 32) (nn := 32) rfl (by omega), if_neg (by omega)]
              · rw [if_neg (by omega)] at e3
                rw [hst4, hst3, e2, e3, tkb]
            · rw [if_neg h3] at e2
              rw [hst4, hst3, e2, tkb, tkb]
          rw [this]
          rfl
        · exfalso
          apply hne
          rw [hst4, hst3, e2, if_pos (by omega), tk (b := b) (a := 3) (n := 8) (nn := 8) rfl (by omega), if_pos (by omega), tk (b := b) (a := 3 + 8) (n := 32) (nn := 32) rfl (by omega), if_pos (by omega)]
      · have h43 : 43 ≤ b.length := by
          refine Decidable.byContradiction fun h43 => ?_
          have : st4.2.2 = 2 := by
            by_cases h3 : 3 ≤ b.length
            · rw [if_pos h3] at e2
              have e3 := tk (b := b) (a := 3) (n := 8) (nn := 8) rfl h3
              by_cases h11 : 11 ≤ b.length
              · rw [if_pos (by omega)] at e3
                rw [hst4, hst3, e2, e3, tk (b := b) (a := 3 + 8) (n := 32) (nn := 32) rfl (by omega), if_neg (by omega)]
              · rw [if_neg (by omega)] at e3
                rw [hst4, hst3, e2, e3, tkb]
            · rw [if_neg h3] at e2
              rw [hst4, hst3, e2, tkb, tkb]
          rw [this] at hz
          cases hz
        rw [if_pos (by omega)] at e2
        have e3 : st3 = (slice b 3 8, (b.drop 11, 0)) := by rw [hst3, e2, tk (b := b) (a := 3) (n := 8) (nn := 8) rfl (by omega), if_pos (by omega)]
        have e4 : st4 = (slice b 11 32, (b.drop 43, 0)) := by rw [hst4, e3, tk (b := b) (a := 11) (n := 32) (nn := 32) rfl (by omega), if_pos (by omega)]
        unfold readU
        rw [if_neg hb, if_pos hkn, if_neg (by omega), e4, fill_full (length_slice (by omega)), e3, List.length_drop, show b.length - (b.length - 43) = 43 by omega]
        have : ide = idU b := by rw [hide, e2]; rfl
        rw [this, hk]
    rw [vbin_eql, wv_some, brB_dec]
    refine ⟨fun hk => ?_, fun hkn2 => ?_⟩
    · obtain ⟨st4, hst4⟩ : ∃ s, s = takes st2.2 32 := ⟨_, rfl⟩
      refine rd (i := 1) s27 rfl (fun h k => cursor_Reader_Hash.use h k) fun G33 s33 => ?_
      rw [← hst4] at s33 ⊢
      have hl4 : (fill 32 st4.1).length = 32 := length_fill (by rw [hst4]; exact length_takes _)
      refine upd_hash hl4 hu1 (i := 0) s33 rfl fun G35 s35 => ?_
      have hu3 : (⟨kd, ide, 0, fill 32 st4.1, []⟩ : UpdM).ok := mkok hu1.kind hu1.id i64_0 hl4 (by decide : (0 : Nat) ≤ 9223372036854775807)
      have hkn : num (slice b 0 1) = 2 := by omega
      have hsh : b.length < 35 → st4.2.2 = 2 := by
        intro h35
        by_cases h3 : 3 ≤ b.length
        · rw [if_pos h3] at e2
          rw [hst4, e2, tk (b := b) (a := 3) (n := 32) (nn := 32) rfl h3, if_neg (by omega)]
        · rw [if_neg h3] at e2
          rw [hst4, e2, tkb]
      have hlg : 35 ≤ b.length → st4 = (slice b 3 32, (b.drop 35, 0)) := by
        intro h35
        rw [if_pos (by omega)] at e2
        rw [hst4, e2, tk (b := b) (a := 3) (n := 32) (nn := 32) rfl (by omega), if_pos (by omega)]
      unfold readU at h71
      rw [if_neg hb, if_neg (by omega), if_pos hkn] at h71
      refine h71 _ ⟨kd, ide, 0, fill 32 st4.1, []⟩ _ s35 hu3 (by rw [hst4]; exact hle2 _ _ hle) (fun hne => ?_) fun hz => ?_
      · by_cases h35 : b.length < 35
        · rw [if_pos h35, hsh h35]
          rfl
        · exact absurd (by rw [hlg (by omega)]) hne
      · by_cases h35 : b.length < 35
        · rw [hsh h35] at hz
          cases hz
        · rw [if_neg h35, hlg (by omega), fill_full (length_slice (by omega)), List.length_drop, show b.length - (b.length - 35) = 35 by omega]
          rw [if_pos (by omega)] at e2
          have : ide = idU b := by rw [hide, e2]; rfl
          rw [this, hk]
    rw [vbin_eql, wv_some, brB_dec]
    refine ⟨fun hk => ?_, fun hkn3 => absurd (by omega) hkn3⟩
    obtain ⟨st4, hst4⟩ : ∃ s, s = texts st2.2 64 := ⟨_, rfl⟩
    refine rd (i := 1) s27 rfl (fun h k => cursor_Reader_Text.use h k) fun G33 s33 => ?_
    rw [← hst4] at s33 ⊢
    refine upd_note _ hu1 (i := 0) s33 rfl fun G35 s35 => ?_
    have hkn : num (slice b 0 1) = 3 := by omega
    have hn2 := num2_lt (b := b) (a := 3)
    have hsh : b.length < 5 → st4 = ([], ([], 2)) := by
      intro h5
      by_cases h3 : 3 ≤ b.length
      · rw [if_pos h3] at e2
        rw [hst4, e2]
        exact texts_short (by rw [List.length_drop]; omega)
      · rw [if_neg h3] at e2
        rw [hst4, e2]
        exact texts_broken (by decide)
    have hlg : 5 ≤ b.length → st4 = if 64 < num (slice b 3 2) then ([], ([], 3)) else if 5 + num (slice b 3 2) ≤ b.length then (slice b 5 (num (slice b 3 2)), (b.drop (5 + num (slice b 3 2)), 0)) else ([], ([], 2)) := by
      intro h5
      rw [if_pos (by omega)] at e2
      rw [hst4, e2, texts_two (by rw [List.length_drop]; omega), List.drop_drop]
      show (if (64 : Int) < ((num (slice b 3 2) : Nat) : Int) then _ else _) = _
      by_cases h64 : 64 < num (slice b 3 2)
      · rw [if_pos (by omega), if_pos h64]
      · rw [if_neg (by omega), if_neg h64]
        exact tk (b := b) (a := 3 + 2) (n := num (slice b 3 2)) rfl (by omega)
    have hnl : st4.1.length ≤ 65536 := by
      by_cases h5 : b.length < 5
      · rw [hsh h5]; simp
      · rw [hlg (by omega)]
        split
        · simp
        · split
          · rw [length_slice (by omega)]; omega
          · simp
    have hle4 : st4.2.1.length ≤ b.length := by
      by_cases h5 : b.length < 5
      · rw [hsh h5]; simp
      · rw [hlg (by omega)]
        split
        · simp
        · split
          · rw [List.length_drop]; omega
          · simp
    have hu3 : (⟨kd, ide, 0, h0, st4.1⟩ : UpdM).ok := mkok hu1.kind hu1.id i64_0 rfl (by omega)
    unfold readU at h71
    rw [if_neg hb, if_neg (by omega), if_neg (by omega), if_pos hkn] at h71
    refine h71 _ ⟨kd, ide, 0, h0, st4.1⟩ _ s35 hu3 hle4 (fun hne => ?_) fun hz => ?_
    · by_cases h5 : b.length < 5
      · rw [if_pos h5, hsh h5]
        rfl
      · have hlg := hlg (by omega)
        rw [if_neg h5]
        by_cases h64 : 64 < num (slice b 3 2)
        · rw [if_pos h64] at hlg ⊢
          rw [hlg]
          rfl
        · rw [if_neg h64] at hlg ⊢
          by_cases hl : 5 + num (slice b 3 2) ≤ b.length
          · rw [if_pos hl] at hlg
            exact absurd (by rw [hlg]) hne
          · rw [if_neg hl] at hlg
            rw [if_pos (by omega), hlg]
            rfl
    · by_cases h5 : b.length < 5
      · rw [hsh h5] at hz
        cases hz
      · have hlg := hlg (by omega)
        rw [if_neg h5]
        by_cases h64 : 64 < num (slice b 3 2)
        · rw [if_pos h64] at hlg
          rw [hlg] at hz
          cases hz
        · rw [if_neg h64] at hlg ⊢
          by_cases hl : 5 + num (slice b 3 2) ≤ b.length
          · rw [if_pos hl] at hlg
            rw [if_neg (by omega), hlg, List.length_drop, show b.length - (b.length - (5 + num (slice b 3 2))) = 5 + num (slice b 3 2) by omega]
            rw [if_pos (by omega)] at e2
            have : ide = idU b := by rw [hide, e2]; rfl
            rw [this, hk]
          · rw [if_neg hl] at hlg
            rw [hlg] at hz
            cases hz
  refine cursor_Reader_Err.use (RdL.rd (i := 1) s11 rfl) ?_
  rw [vbin_eql, wv_some, brB_dec]
  refine ⟨fun hz => ?_, fun hz => good fun h => absurd h hz⟩
  have hbne : b ≠ [] ∧ num st1.1 = num (slice b 0 1) := by
    cases b with
    | nil => rw [hst1, takes_short (by decide)] at hz; exact absurd hz (by decide)
    | cons x b => exact ⟨by simp, by rw [hst1, takes_ok (by simp; omega)]; rfl⟩
  have hbad : ¬ (1 ≤ kd ∧ kd ≤ 3) → readU b = (UpdM.zero, 0, 120) := by
    intro h
    rw [hkd, hbne.2] at h
    unfold readU
    rw [if_neg hbne.1, if_neg (by omega), if_neg (by omega), if_neg (by omega)]
  refine wv_of (upd_load (i := 0) s11 rfl hu0).1 ?_
  rw [vbin_lss, wv_some, brB_dec]
  refine ⟨fun h => bad _ s11 (hbad (by dsimp only at h; omega)), fun h1 => ?_⟩
  refine wv_of (upd_load (i := 0) s11 rfl hu0).1 ?_
  rw [vbin_gtr, wv_some]
  dsimp only at h1 ⊢
  by_cases h3 : 3 < kd
  · rw [decide_eq_true h3]
    exact bad _ s11 (hbad (by omega))
  · rw [decide_eq_false h3]
    exact good fun _ => ⟨by omega, by omega⟩

end
end Go.Esc.M

/- Own work. Chapter 12: updates read, in the document. -/
set_option linter.unusedSimpArgs false
set_option linter.unusedVariables false
set_option maxRecDepth 20000
namespace Go.Esc.M
open Go Go.Esc

section
variable {F0 : List AId} {G0 G : Heap} {ps : List LP} {Q : AVal → Heap → Prop}

end
end Go.Esc.M

/- Own work. Chapter 12: finds; adds; UpdateBytes. -/
set_option linter.unusedSimpArgs false
set_option linter.unusedVariables false
set_option maxRecDepth 20000
namespace Go.Esc.M
open Go Go.Esc

def hits (rm : Bool) (id : Int) (u : UpdM) : Bool := decide (u.id = id) && bif rm then decide (u.kind = 2) || decide (u.kind = 3) else decide (u.kind = 1)
def firstU (rm : Bool) (id : Int) (l : List UpdM) : Option UpdM := l.find? (hits rm id)
def optU (o : Option UpdM) : AVal := .tuple [(o.getD UpdM.zero).av, .bool o.isSome]
def addsU (l : List UpdM) : Nat := (l.filter (fun u => decide (u.kind = 1))).length
theorem firstU_ok {rm : Bool} {id : Int} {l : List UpdM} (h : ∀ u ∈ l, u.ok) : ((firstU rm id l).getD UpdM.zero).ok := by
  cases hf : firstU rm id l with
  | none => exact UpdM.zero_ok
  | some u => exact h u (List.mem_of_find?_eq_some hf)
theorem addsU_take {l : List UpdM} {j : Nat} {u : UpdM} (h : l[j]? = some u) : addsU (l.take (j + 1)) = addsU (l.take j) + (if u.kind = 1 then 1 else 0) := by
  rw [List.take_add_one, h]
  unfold addsU
  rw [List.filter_append, List.length_append]
  by_cases hk : u.kind = 1 <;> simp [hk]
theorem addsU_le (l : List UpdM) : addsU l ≤ l.length := List.length_filter_le _ _

section
variable {F0 : List AId} {G0 G : Heap} {ps : List LP} {Q : AVal → Heap → Prop}

theorem upd_at {v : AVal} {l : List UpdM} {j : Nat} {u : UpdM} (h : IsSl 36 G v (l.map UpdM.av)) (hj : l[j]? = some u) : ∃ a, viaddr T t_sl_api_Update v (.int .i64 (j : Int)) = some a ∧ vload T G t_api_Update a = some u.av :=
  h.at_ (k := .i64) (i := ti_sl_api_Update) (ie := ti_api_Update) (T := T) (t := t_sl_api_Update) (e := t_api_Update) T_sl_api_Update rfl T_api_Update (by rw [List.getElem?_map, hj]; rfl) rfl
theorem upd_len {v : AVal} {l : List UpdM} (h : IsSl 36 G v (l.map UpdM.av)) : vlen T G t_sl_api_Update v = some (.int .i64 (l.length : Nat)) := by
  rw [h.len (i := ti_sl_api_Update) T_sl_api_Update rfl, List.length_map]
theorem newU {u : UpdM} {K : AId → Heap → Prop} (hs : Sp F0 G0 ps G) (hu : u.ok) (hK : ∀ i G', Sp F0 G0 (RowL i u.av :: ps) G' → K i G') : aNew G (.own z_api_Update) fun i G2 => wg (vstore T G2 t_api_Update (.ptr i [] 0) u.av) fun G3 => K i G3 :=
  newVal hs T_api_Update (UpdM.fits hu) (by rw [UpdM.sz hu]; rfl) (UpdM.okv u) hK

set_option maxHeartbeats 1000000 in
theorem update_first.use {v : AVal} {l : List UpdM} {id : Int} {rm : Bool} (hl : IsSl 36 G v (l.map UpdM.av)) (hok : ∀ u ∈ l, u.ok) (hlen : l.length ≤ 9223372036854775807) (hQ : ∀ G', Ch [] G [] G' → Q (optU (firstU rm id l)) G') :
    ACalls P update_first.n [v, .int .i64 id, .bool rm] G Q := by
  refine update_first.sound ?_
  unfold update_first.S
  intro i1 f1
  have s1 : Sp [] G [RowL i1 UpdM.zero.av] _ := (Sp.nil G).row f1 UpdM.zero.av
  refine wv_of (upd_len (hl.ch' s1.ch)) ?_
  intro R hR
  have loop : ∀ (n j : Nat) (G' : Heap), l.length - j = n → j ≤ l.length → firstU rm id (l.drop j) = firstU rm id l → Sp [] G [RowL i1 UpdM.zero.av] G' → R [.int .i64 id, .bool rm, .ptr i1 [] 0, v, .int .i64 (l.length : Nat), .int .i64 (j : Int)] G' := by
    intro n
    induction n with
    | zero =>
      intro j G' hn hj he hs
      have : j = l.length := by omega
      subst this
      rw [List.drop_length] at he
      refine hR _ _ _ _ _ _ _ ?_
      rw [vbin_lss, wv_some, brB_dec]
      refine ⟨fun h => absurd h (by omega), fun _ => ?_⟩
      rw [build_none, wv_some]
      refine upd_store (i := 0) hs rfl UpdM.zero_ok UpdM.zero_ok fun G2 s2 => ?_
      refine wv_of (upd_load (i := 0) s2 rfl UpdM.zero_ok).2.2.2.2.2 ?_
      have := hQ _ s2.ch
      rw [← he] at this
      exact this
    | succ n ih =>
      intro j G' hn hj he hs
      obtain ⟨u, hu⟩ : ∃ u, l[j]? = some u := ⟨_, List.getElem?_eq_getElem (by omega)⟩
      have huo := hok u (List.mem_of_getElem? hu)
      obtain ⟨a, ha, hla⟩ := upd_at (hl.ch' hs.ch) hu
      have hdr : l.drop j = u :: l.drop (j + 1) := by
        obtain ⟨hx, rfl⟩ := List.getElem?_eq_some_iff.1 hu
        exact List.drop_eq_getElem_cons hx
      rw [hdr, firstU, List.find?_cons] at he
      refine hR _ _ _ _ _ _ _ ?_
      rw [vbin_lss, wv_some, brB_dec]
      refine ⟨fun _ => ?_, fun h => absurd (by omega) h⟩
      rw [ha, wv_some, hla, wv_some]
      refine newU hs huo fun i15 G17 s17 => ?_
      obtain ⟨l0, l1, _⟩ := upd_load (i := 0) s17 rfl huo
      intro J36
      have yes : hits rm id u = true → J36 (.bool true) G17 := by
        intro h
        rw [h] at he
        simp -zeta only [J36, brB_true]
        refine wv_of (upd_load (i := 0) s17 rfl huo).2.2.2.2.2 ?_
        refine upd_store (i := 1) s17 rfl UpdM.zero_ok huo fun G2 s2 => ?_
        refine wv_of (upd_load (i := 1) s2 rfl huo).2.2.2.2.2 ?_
        have := hQ _ s2.ch
        rw [← he] at this
        exact this
      have no : hits rm id u = false → J36 (.bool false) G17 := by
        intro h
        rw [h] at he
        simp -zeta only [J36, brB_false]
        rw [vbin_add, wv_some, i64_in (by omega) (by omega)]
        exact ih (j + 1) G17 (by omega) (by omega) he (s17.erase 0)
      unfold hits at yes no
      rw [l1, wv_some, vbin_eql, wv_some, brB_dec]
      refine ⟨fun hid => ?_, fun hid => no (by rw [decide_eq_false hid, Bool.false_and])⟩
      rw [decide_eq_true hid, Bool.true_and] at yes no
      cases rm with
      | false =>
        rw [cond_false] at yes no
        rw [vun_not, wv_some, Bool.not_false, brB_true, l0, wv_some, vbin_eql, wv_some, brB_dec]
        refine ⟨fun hk => yes (decide_eq_true hk), fun hk => ?_⟩
        rw [brB_false]
        exact no (decide_eq_false hk)
      | true =>
        rw [cond_true] at yes no
        rw [vun_not, wv_some, Bool.not_true, brB_false, brB_true, l0, wv_some, vbin_eql, wv_some, brB_dec]
        refine ⟨fun hk => yes (by rw [decide_eq_true hk, Bool.true_or]), fun hk => ?_⟩
        rw [decide_eq_false hk, Bool.false_or] at yes no
        rw [wv_some, vbin_eql, wv_some]
        by_cases h3 : u.kind = 3
        · rw [decide_eq_true h3]; exact yes (decide_eq_true h3)
        · rw [decide_eq_false h3]; exact no (decide_eq_false h3)
  exact loop _ 0 _ rfl (by omega) (by simp) s1

theorem opt0 (o : Option UpdM) : vextract (optU o) 0 = some (o.getD UpdM.zero).av := rfl
theorem opt1 (o : Option UpdM) : vextract (optU o) 1 = some (.bool o.isSome) := rfl

theorem update_Find.use {v : AVal} {l : List UpdM} {id : Int} (hl : IsSl 36 G v (l.map UpdM.av)) (hok : ∀ u ∈ l, u.ok) (hlen : l.length ≤ 9223372036854775807) (hQ : ∀ G', Ch [] G [] G' → Q (optU (firstU false id l)) G') :
    ACalls P update_Find.n [v, .int .i64 id] G Q := by
  refine update_Find.sound ?_
  unfold update_Find.S
  intro i1 f1
  have s1 : Sp [] G [RowL i1 UpdM.zero.av] _ := (Sp.nil G).row f1 UpdM.zero.av
  refine update_first.use (hl.ch' s1.ch) hok hlen fun G4 c4 => ?_
  have s4 := s1.tmp c4
  have hf := firstU_ok (rm := false) (id := id) hok
  rw [opt0, wv_some, opt1, wv_some]
  refine upd_store (i := 0) s4 rfl UpdM.zero_ok hf fun G2 s2 => ?_
  refine wv_of (upd_load (i := 0) s2 rfl hf).2.2.2.2.2 ?_
  exact hQ _ s2.ch
theorem update_Removal.use {v : AVal} {l : List UpdM} {id : Int} (hl : IsSl 36 G v (l.map UpdM.av)) (hok : ∀ u ∈ l, u.ok) (hlen : l.length ≤ 9223372036854775807) (hQ : ∀ G', Ch [] G [] G' → Q (optU (firstU true id l)) G') :
    ACalls P update_Removal.n [v, .int .i64 id] G Q := by
  refine update_Removal.sound ?_
  unfold update_Removal.S
  intro i1 f1
  have s1 : Sp [] G [RowL i1 UpdM.zero.av] _ := (Sp.nil G).row f1 UpdM.zero.av
  refine update_first.use (hl.ch' s1.ch) hok hlen fun G4 c4 => ?_
  have s4 := s1.tmp c4
  have hf := firstU_ok (rm := true) (id := id) hok
  rw [opt0, wv_some, opt1, wv_some]
  refine upd_store (i := 0) s4 rfl UpdM.zero_ok hf fun G2 s2 => ?_
  refine wv_of (upd_load (i := 0) s2 rfl hf).2.2.2.2.2 ?_
  exact hQ _ s2.ch

theorem update_adds.use {v : AVal} {l : List UpdM} (hl : IsSl 36 G v (l.map UpdM.av)) (hok : ∀ u ∈ l, u.ok) (hlen : l.length ≤ 9223372036854775807) (hQ : ∀ G', Ch [] G [] G' → Q (.int .i64 (addsU l : Nat)) G') :
    ACalls P update_adds.n [v] G Q := by
  refine update_adds.sound ?_
  unfold update_adds.S
  refine wv_of (upd_len hl) ?_
  intro R hR
  have loop : ∀ (n j : Nat) (G' : Heap), l.length - j = n → j ≤ l.length → Sp [] G [] G' → R [.int .i64 (addsU (l.take j) : Nat), v, .int .i64 (l.length : Nat), .int .i64 (j : Int)] G' := by
    intro n
    induction n with
    | zero =>
      intro j G' hn hj hs
      have : j = l.length := by omega
      subst this
      refine hR _ _ _ _ _ ?_
      rw [vbin_lss, wv_some, brB_dec]
      refine ⟨fun h => absurd h (by omega), fun _ => ?_⟩
      rw [List.take_length]
      exact hQ _ hs.ch
    | succ n ih =>
      intro j G' hn hj hs
      obtain ⟨u, hu⟩ : ∃ u, l[j]? = some u := ⟨_, List.getElem?_eq_getElem (by omega)⟩
      have huo := hok u (List.mem_of_getElem? hu)
      obtain ⟨a, ha, hla⟩ := upd_at (hl.ch' hs.ch) hu
      have ht := addsU_take hu
      have hle := addsU_le (l.take j)
      have hlj : (l.take j).length ≤ j := List.length_take_le _ _
      refine hR _ _ _ _ _ ?_
      rw [vbin_lss, wv_some, brB_dec]
      refine ⟨fun _ => ?_, fun h => absurd (by omega) h⟩
      rw [ha, wv_some, hla, wv_some]
      refine newU hs huo fun i11 G13 s13 => ?_
      refine wv_of (upd_load (i := 0) s13 rfl huo).1 ?_
      rw [vbin_eql, wv_some, brB_dec]
      refine ⟨fun hk => ?_, fun hk => ?_⟩
      · rw [if_pos hk] at ht
        rw [vbin_add, wv_some, i64_in (by omega) (by omega), vbin_add, wv_some, i64_in (by omega) (by omega), show ((addsU (l.take j) : Nat) : Int) + 1 = ((addsU (l.take (j + 1)) : Nat) : Int) by omega]
        exact ih (j + 1) G13 (by omega) (by omega) (s13.erase 0)
      · rw [if_neg hk] at ht
        rw [vbin_add, wv_some, i64_in (by omega) (by omega), show addsU (l.take j) = addsU (l.take (j + 1)) by omega]
        exact ih (j + 1) G13 (by omega) (by omega) (s13.erase 0)
  exact loop _ 0 G rfl (by omega) (Sp.nil G)

/-- May an update stand behind a list? Where no sum is asked for. -/
def nextA (mine : List UpdM) (u : UpdM) : Int := if 2048 ≤ mine.length then 6 else if validU u = false then 120 else if u.id = (addsU mine : Nat) then 0 else 120
theorem update_Next.useA {v w : AVal} {mine : List UpdM} {u : UpdM} (hl : IsSl 36 G v (mine.map UpdM.av)) (hok : ∀ u ∈ mine, u.ok) (hlen : mine.length ≤ 9223372036854775807) (hu : u.ok) (hk : u.kind = 1 ∨ validU u = false ∨ 2048 ≤ mine.length) (hQ : ∀ G', Ch [] G [] G' → Q (.int .i64 (nextA mine u)) G') :
    ACalls P update_Next.n [v, w, u.av] G Q := by
  refine update_Next.sound ?_
  unfold update_Next.S
  intro i1 f1
  have s1 := (Sp.nil G).row f1 u.av
  refine wv_of (upd_len (hl.ch' s1.ch)) ?_
  unfold nextA at hQ
  rw [vbin_geq, wv_some, brB_dec]
  refine ⟨fun h => ?_, fun h => ?_⟩
  · rw [if_pos (by omega)] at hQ
    exact hQ _ s1.ch
  rw [if_neg (by omega)] at hQ
  refine wv_of (upd_load (i := 0) s1 rfl hu).2.2.2.2.2 ?_
  refine update_Valid.use hu fun G7 c7 => ?_
  have s7 := s1.tmp c7
  rw [vun_not, wv_some]
  cases hv : validU u with
  | false =>
    rw [if_pos hv] at hQ
    exact hQ _ s7.ch
  | true =>
    rw [if_neg (by rw [hv]; decide)] at hQ
    rw [Bool.not_true, brB_false]
    have hk1 : u.kind = 1 := by
      rcases hk with h | h' | h'
      · exact h
      · rw [hv] at h'; cases h'
      · omega
    refine wv_of (upd_load (i := 0) s7 rfl hu).1 ?_
    rw [vbin_eql, wv_some, decide_eq_true hk1, brB_true]
    refine wv_of (upd_load (i := 0) s7 rfl hu).2.1 ?_
    refine update_adds.use (hl.ch' s7.ch) hok hlen fun G13 c13 => ?_
    have s13 := s7.tmp c13
    refine ⟨⟨(upd_load (i := 0) s13 rfl hu).2.1, trivial⟩, ?_⟩
    rw [vbin_neq, wv_some, brB_ndec]
    exact ⟨fun h => by rw [if_neg h] at hQ; exact hQ _ s13.ch, fun h => by rw [if_pos h] at hQ; exact hQ _ s13.ch⟩

end
end Go.Esc.M

/- Own work. Chapter 12: the document's examples; UpdateBytes. -/
set_option linter.unusedSimpArgs false
set_option linter.unusedVariables false
set_option maxRecDepth 20000
namespace Go.Esc.M
open Go Go.Esc

theorem eqF_upd {p p' : UpdM} (h : p.ok) (h' : p'.ok) : eqF T (veqD T 8) [(t_int, 0), (t_int64, 1), (t_int64, 2), (t_api_Hash, 3), (t_string, 35)] p.cs p'.cs 0 = some (decide (p = p')) := by
  have z1 := fits_hash h.hash
  have z2 := fits_hash h'.hash
  have q2 : ∀ m n : Int, veqD T 8 t_int64 (.int .i64 m) (.int .i64 n) = some (decide (m = n)) := fun m n => by
    rw [veqD]; simp only [T_int64]; rfl
  have q1 : ∀ m n : Int, veqD T 8 t_int (.int .i64 m) (.int .i64 n) = some (decide (m = n)) := fun m n => by
    rw [veqD]; simp only [T_int]; rfl
  have q4 : ∀ m n : List UInt8, veqD T 8 t_string (.str m) (.str n) = some (decide (m = n)) := fun m n => by
    rw [veqD]; simp only [T_string]; rfl
  have v1 : ∀ m : Int, vfits ti_int (.int .i64 m) = true := fun m => rfl
  have v2 : ∀ m : Int, vfits ti_int64 (.int .i64 m) = true := fun m => rfl
  have v4 : ∀ m : List UInt8, vfits ti_string (.str m) = true := fun m => rfl
  have s1 : ti_int.size = 1 := rfl
  have s2 : ti_int64.size = 1 := rfl
  have s3 : ti_api_Hash.size = 32 := rfl
  have q3 := veq_hash h.hash h'.hash
  obtain ⟨a, b, c, d, e⟩ := p
  obtain ⟨a', b', c', d', e'⟩ := p'
  dsimp only at z1 z2 q3
  simp only [UpdM.cs, eqF, T_int, T_int64, T_api_Hash, T_string, v1, v2, v4, z1, z2, s1, s2, s3, Nat.zero_add, q1, q2, q3, q4, beq_self_eq_true, Bool.and_self, Nat.reduceAdd, if_true]
  by_cases h1 : a = a'
  · subst h1
    by_cases h2 : b = b'
    · subst h2
      by_cases h3 : c = c'
      · subst h3
        by_cases h4 : d = d'
        · subst h4
          by_cases h5 : e = e'
          · subst h5; simp
          · simp [h5]
        · simp [h4]
      · simp [h3]
    · simp [h2]
  · simp [h1]

theorem veq_upd {p p' : UpdM} (h : p.ok) (h' : p'.ok) : veqD T 9 t_api_Update p.av p'.av = some (decide (p = p')) := by
  rw [← eqF_upd h h', veqD]
  have e1 : ti_api_Update.desc = .struct [(t_int, 0), (t_int64, 1), (t_int64, 2), (t_api_Hash, 3), (t_string, 35)] := rfl
  simp only [T_api_Update, e1]
  rfl
theorem vbin_ueql {p p' : UpdM} (h : p.ok) (h' : p'.ok) : vbin T .eql t_api_Update p.av p'.av = some (.bool (decide (p = p'))) := by
  have := veq_upd h h'
  unfold UpdM.av at this ⊢
  simp only [vbin, this]
theorem vbin_uneq {p p' : UpdM} (h : p.ok) (h' : p'.ok) : vbin T .neq t_api_Update p.av p'.av = some (.bool (!decide (p = p'))) := by
  have := veq_upd h h'
  unfold UpdM.av at this ⊢
  simp only [vbin, this]

theorem readU_ok {b : List UInt8} (hb : b.length ≤ 9223372036854775807) : (readU b).1.ok := by
  have hz := UpdM.zero_ok
  have ho : ∀ u n, u.ok → (okU u n).1.ok := fun u n h => by
    unfold okU
    cases validU u
    · exact hz
    · exact h
  have hid : I64 (idU b) := i64_small (by unfold idU; omega) (by have := num2_lt (b := b) (a := 1); unfold idU; omega)
  unfold readU
  split
  · exact hz
  split
  · split
    · exact hz
    · exact ho _ _ (mkok ⟨by decide, by decide⟩ hid (hw64 _) (length_slice (by omega)) (by decide : (0 : Nat) ≤ 9223372036854775807))
  split
  · split
    · exact hz
    · exact ho _ _ (mkok ⟨by decide, by decide⟩ hid i64_0 (length_slice (by omega)) (by decide : (0 : Nat) ≤ 9223372036854775807))
  split
  · split
    · exact hz
    split
    · exact hz
    split
    · exact hz
    · exact ho _ _ (mkok ⟨by decide, by decide⟩ hid i64_0 rfl (by rw [length_slice (by omega)]; omega))
  · exact hz

section
variable {F0 : List AId} {G0 G : Heap} {ps : List LP} {Q : AVal → Heap → Prop}


end

end Go.Esc.M
