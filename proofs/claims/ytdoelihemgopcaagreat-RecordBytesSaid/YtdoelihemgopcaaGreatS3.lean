/- Printed by gen.py (own work): functions of the program YtdoelihemgopcaaGreat over trees and the abstract heap. -/
import Derived.Test.YtdoelihemgopcaaGreatT
set_option linter.unusedSimpArgs false
set_option linter.unusedVariables false
namespace Go.Esc.M
open Go Go.Esc Go.Proofs

/-! #### escrow/escrowref17.Write -/
def escrowref17_Write.S (a0 : AVal) (G : Heap) (Q : AVal → Heap → Prop) : Prop :=
  aNew G (.own (a0)) fun i1 G2 => wv (vload T G2 t_api_Record (.ptr i1 [] 0)) fun v3 => ACalls P escrowref17_Valid.n [v3] G2 fun v4 G5 => wv (vun .not v4) fun v6 => brB (some v6)
  (Q (.tuple [.str [], .int .i64 170]) G5)
  (wv (vload T G5 t_int (.ptr i1 [0] 0)) fun v7 => wv (vconv T G5 t_int t_uint8 v7) fun v8 => aBuildSlice T t_sl_uint8 1 [(0, v8)] G5 fun v9 G10 => wv (vload T G10 t_int64 (.ptr i1 [3] 38)) fun v11 => wv (vconv T G10 t_int64 t_uint64 v11) fun v12 => ACalls P escrowref03_Bytes.n [v12, .int .i64 8] G10 fun v13 G14 => wv (vload T G14 t_int (.ptr i1 [0] 0)) fun v15 => let J104 : AVal → Heap → Prop := (fun x102 G101 => wv (vconv T G101 t_sl_uint8 t_string x102) fun v103 => Q (.tuple [v103, .int .i64 0]) G101);
  wv (vbin T .eql t_int v15 (.int .i64 1)) fun v16 => brB (some v16)
  (wv (vload T G14 t_api_Update (.ptr i1 [1] 1)) fun v17 => ACalls P escrowref12_Write.n [v17] G14 fun v18 G19 => wv (vextract v18 0) fun v20 => wv (vextract v18 1) fun v21 => aAppend T G19 t_sl_uint8 t_string v9 v20 fun v22 G23 => J104 v22 G23)
  (wv (vbin T .eql t_int v15 (.int .i64 2)) fun v24 => brB (some v24)
  (aAppend T G14 t_sl_uint8 t_string v9 v13 fun v25 G26 => wv (vload T G26 t_int (.ptr i1 [4, 0] 39)) fun v27 => wv (vconv T G26 t_int t_uint64 v27) fun v28 => ACalls P escrowref03_Bytes.n [v28, .int .i64 2] G26 fun v29 G30 => aAppend T G30 t_sl_uint8 t_string v25 v29 fun v31 G32 => wv (vload T G32 t_int (.ptr i1 [4, 1] 40)) fun v33 => wv (vconv T G32 t_int t_uint64 v33) fun v34 => ACalls P escrowref03_Bytes.n [v34, .int .i64 2] G32 fun v35 G36 => aAppend T G36 t_sl_uint8 t_string v31 v35 fun v37 G38 => J104 v37 G38)
  (wv (vbin T .eql t_int v15 (.int .i64 3)) fun v39 => brB (some v39)
  (aAppend T G14 t_sl_uint8 t_string v9 v13 fun v40 G41 => wv (vload T G41 t_sl_api_Update (.ptr i1 [2] 37)) fun v42 => wv (vlen T G41 t_sl_api_Update v42) fun v43 => wv (vconv T G41 t_int t_uint64 v43) fun v44 => ACalls P escrowref03_Bytes.n [v44, .int .i64 2] G41 fun v45 G46 => aAppend T G46 t_sl_uint8 t_string v40 v45 fun v47 G48 => ∀ R49 : List AVal → Heap → Prop,
  (∀ (x51 x52 x53 : AVal) (G50 : Heap), (wv (vfaddr T t_api_Record x51 2) fun v54 => wv (vload T G50 t_sl_api_Update v54) fun v55 => wv (vlen T G50 t_sl_api_Update v55) fun v56 => wv (vbin T .lss t_int x53 v56) fun v57 => brB (some v57)
  (wv (vfaddr T t_api_Record x51 2) fun v58 => wv (vload T G50 t_sl_api_Update v58) fun v59 => wv (viaddr T t_sl_api_Update v59 x53) fun v60 => wv (vload T G50 t_api_Update v60) fun v61 => ACalls P escrowref12_Write.n [v61] G50 fun v62 G63 => wv (vextract v62 0) fun v64 => wv (vextract v62 1) fun v65 => aAppend T G63 t_sl_uint8 t_string x52 v64 fun v66 G67 => wv (vbin T .add t_int x53 (.int .i64 1)) fun v68 => R49 [x51, v66, v68] G67)
  (wv (vfaddr T t_api_Record x51 5) fun v69 => wv (vslice T t_api_Hash v69 none none none) fun v70 => aAppend T G50 t_sl_uint8 t_sl_uint8 x52 v70 fun v71 G72 => J104 v71 G72)) → R49 [x51, x52, x53] G50) →
  R49 [.ptr i1 [] 0, v47, .int .i64 0] G48)
  (wv (vbin T .eql t_int v15 (.int .i64 4)) fun v73 => brB (some v73)
  (aAppend T G14 t_sl_uint8 t_string v9 v13 fun v74 G75 => wv (vslice T t_api_Hash (.ptr i1 [6] 73) none none none) fun v76 => aAppend T G75 t_sl_uint8 t_sl_uint8 v74 v76 fun v77 G78 => wv (vslice T t_api_Hash (.ptr i1 [7] 105) none none none) fun v79 => aAppend T G78 t_sl_uint8 t_sl_uint8 v77 v79 fun v80 G81 => J104 v80 G81)
  (wv (vbin T .eql t_int v15 (.int .i64 5)) fun v82 => brB (some v82)
  (wv (vload T G14 t_int (.ptr i1 [8] 137)) fun v83 => wv (vconv T G14 t_int t_uint64 v83) fun v84 => ACalls P escrowref03_Bytes.n [v84, .int .i64 2] G14 fun v85 G86 => aAppend T G86 t_sl_uint8 t_string v9 v85 fun v87 G88 => J104 v87 G88)
  (aAppend T G14 t_sl_uint8 t_string v9 v13 fun v89 G90 => J104 v89 G90))))))
def escrowref17_Write.an : Ann := .two (.nil) (.two (.nil) (.two (.nil) (.two (.nil) (.two (.two (.nil) (.two (.nil) (.two (.nil) (.two (.nil) (.two (.nil) (.two (.nil) (.two (.two (.nil) (.two (.nil) (.two (.two (.nil) (.loop [1, 4, 8] (.nil))) (.nil)))) (.nil)))))))) (.nil)))))
set_option maxRecDepth 100000 in
theorem escrowref17_Write.sound {a0 : AVal} {G : Heap} {Q : AVal → Heap → Prop} (h : escrowref17_Write.S a0 G Q) : ACalls P escrowref17_Write.n [a0] G Q := by
  have e : escrowref17_Write.S a0 G Q = awp cx (escrowref17_Write.body) escrowref17_Write.an (bodyQ T [.tmp 2, .tmp 3] Q) (envL [a0]) G := by kernel_rfl
  exact ACalls_of_awp cxOk (f := escrowref17_Write.n) (fn := Tryz.f7) (c := escrowref17_Write.body) (an := escrowref17_Write.an) Tryz.func7 (by kernel_rfl) (by kernel_rfl) (by kernel_rfl) (drawsOk_of (by kernel_rfl) (by kernel_rfl)) (by simp [Tryz.f7]) (e ▸ h)

/-! #### escrow/escrowlaw17.lent -/
def escrowlaw17_lent.S (a0 : AVal) (G : Heap) (Q : AVal → Heap → Prop) : Prop :=
  aNew G (.own (a0)) fun i1 G2 => aNew G2 (.own (z_api_Record)) fun i3 G4 => wv (vload T G4 t_sl_api_Update (.ptr i1 [2] 37)) fun v5 => aAppend T G4 t_sl_api_Update t_sl_api_Update (.nilSlice) v5 fun v6 G7 => wv (vbuild T t_api_Update [(0, .int .i64 77)]) fun v8 => wv (vbuild T t_api_Update [(4, .str [109, 97, 114, 107])]) fun v9 => aBuildSlice T t_sl_api_Update 2 [(0, v8), (1, v9)] G7 fun v10 G11 => aAppend T G11 t_sl_api_Update t_sl_api_Update v6 v10 fun v12 G13 => wv (vload T G13 t_sl_api_Update (.ptr i1 [2] 37)) fun v14 => wv (vlen T G13 t_sl_api_Update v14) fun v15 => wv (vslice T t_sl_api_Update v12 none (some (v15)) none) fun v16 => wg (vstore T G13 t_sl_api_Update (.ptr i1 [2] 37) v16) fun G17 => wv (vload T G17 t_api_Record (.ptr i1 [] 0)) fun v18 => wg (vstore T G17 t_api_Record (.ptr i3 [] 0) v18) fun G19 => wv (vload T G19 t_api_Record (.ptr i3 [] 0)) fun v20 => Q (.tuple [v20, v12]) G19
def escrowlaw17_lent.an : Ann := .nil
set_option maxRecDepth 100000 in
theorem escrowlaw17_lent.sound {a0 : AVal} {G : Heap} {Q : AVal → Heap → Prop} (h : escrowlaw17_lent.S a0 G Q) : ACalls P escrowlaw17_lent.n [a0] G Q := by
  have e : escrowlaw17_lent.S a0 G Q = awp cx (escrowlaw17_lent.body) escrowlaw17_lent.an (bodyQ T [.cell 2 30, .tmp 3] Q) (envL [a0]) G := by kernel_rfl
  exact ACalls_of_awp cxOk (f := escrowlaw17_lent.n) (fn := Tryz.f8) (c := escrowlaw17_lent.body) (an := escrowlaw17_lent.an) Tryz.func8 (by kernel_rfl) (by kernel_rfl) (by kernel_rfl) (drawsOk_of (by kernel_rfl) (by kernel_rfl)) (by simp [Tryz.f8]) (e ▸ h)

/-! #### escrow/escrowref03.Open -/
def escrowref03_Open.S (a0 : AVal) (G : Heap) (Q : AVal → Heap → Prop) : Prop :=
  wv (vbuild T t_escrowref03_Reader [(0, a0)]) fun v1 => aNew G (.own (v1)) fun i2 G3 => Q (.ptr i2 [] 0) G3
def escrowref03_Open.an : Ann := .nil
set_option maxRecDepth 100000 in
theorem escrowref03_Open.sound {a0 : AVal} {G : Heap} {Q : AVal → Heap → Prop} (h : escrowref03_Open.S a0 G Q) : ACalls P escrowref03_Open.n [a0] G Q := by
  have e : escrowref03_Open.S a0 G Q = awp cx (escrowref03_Open.body) escrowref03_Open.an (bodyQ T [.tmp 2] Q) (envL [a0]) G := by kernel_rfl
  exact ACalls_of_awp cxOk (f := escrowref03_Open.n) (fn := Tryz.f37) (c := escrowref03_Open.body) (an := escrowref03_Open.an) Tryz.func37 (by kernel_rfl) (by kernel_rfl) (by kernel_rfl) (drawsOk_of (by kernel_rfl) (by kernel_rfl)) (by simp [Tryz.f37]) (e ▸ h)

/-! #### escrow/escrowref03.Number -/
def escrowref03_Number.S (a0 : AVal) (G : Heap) (Q : AVal → Heap → Prop) : Prop :=
  ∀ R1 : List AVal → Heap → Prop,
  (∀ (x3 x4 x5 : AVal) (G2 : Heap), (wv (vlen T G2 t_string x3) fun v6 => wv (vbin T .lss t_int x5 v6) fun v7 => brB (some v7)
  (wv (vbin T .mul t_uint64 x4 (.int .u64 256)) fun v8 => wv (vindex T t_string x3 x5) fun v9 => wv (vconv T G2 t_uint8 t_uint64 v9) fun v10 => wv (vbin T .add t_uint64 v8 v10) fun v11 => wv (vbin T .add t_int x5 (.int .i64 1)) fun v12 => R1 [x3, v11, v12] G2)
  (Q x4 G2)) → R1 [x3, x4, x5] G2) →
  R1 [a0, .int .u64 0, .int .i64 0] G
def escrowref03_Number.an : Ann := .two (.nil) (.two (.nil) (.two (.two (.nil) (.loop [0, 3, 4] (.nil))) (.nil)))
set_option maxRecDepth 100000 in
theorem escrowref03_Number.sound {a0 : AVal} {G : Heap} {Q : AVal → Heap → Prop} (h : escrowref03_Number.S a0 G Q) : ACalls P escrowref03_Number.n [a0] G Q := by
  have e : escrowref03_Number.S a0 G Q = awp cx (escrowref03_Number.body) escrowref03_Number.an (bodyQ T [.tmp 2] Q) (envL [a0]) G := by kernel_rfl
  exact ACalls_of_awp cxOk (f := escrowref03_Number.n) (fn := Tryz.f66) (c := escrowref03_Number.body) (an := escrowref03_Number.an) Tryz.func66 (by kernel_rfl) (by kernel_rfl) (by kernel_rfl) (drawsOk_of (by kernel_rfl) (by kernel_rfl)) (by simp [Tryz.f66]) (e ▸ h)

/-! #### (*escrow/escrowref03.Reader).breaks -/
def escrowref03_Reader_breaks.S (a0 a1 : AVal) (G : Heap) (Q : AVal → Heap → Prop) : Prop :=
  wv (vnil a0) fun v1 => wv (vfaddr T t_escrowref03_Reader v1 1) fun v2 => wv (vload T G t_api_Errno v2) fun v3 => wv (vbin T .eql t_api_Errno v3 (.int .i64 0)) fun v4 => brB (some v4)
  (wv (vnil a0) fun v5 => wv (vfaddr T t_escrowref03_Reader v5 1) fun v6 => wg (vstore T G t_api_Errno v6 a1) fun G7 => Q (.tuple []) G7)
  (Q (.tuple []) G)
def escrowref03_Reader_breaks.an : Ann := .nil
set_option maxRecDepth 100000 in
theorem escrowref03_Reader_breaks.sound {a0 a1 : AVal} {G : Heap} {Q : AVal → Heap → Prop} (h : escrowref03_Reader_breaks.S a0 a1 G Q) : ACalls P escrowref03_Reader_breaks.n [a0, a1] G Q := by
  have e : escrowref03_Reader_breaks.S a0 a1 G Q = awp cx (escrowref03_Reader_breaks.body) escrowref03_Reader_breaks.an (bodyQ T [] Q) (envL [a0, a1]) G := by kernel_rfl
  exact ACalls_of_awp cxOk (f := escrowref03_Reader_breaks.n) (fn := Tryz.f68) (c := escrowref03_Reader_breaks.body) (an := escrowref03_Reader_breaks.an) Tryz.func68 (by kernel_rfl) (by kernel_rfl) (by kernel_rfl) (drawsOk_of (by kernel_rfl) (by kernel_rfl)) (by simp [Tryz.f68]) (e ▸ h)

/-! #### (*escrow/escrowref03.Reader).take -/
def escrowref03_Reader_take.S (a0 a1 : AVal) (G : Heap) (Q : AVal → Heap → Prop) : Prop :=
  wv (vnil a0) fun v1 => wv (vfaddr T t_escrowref03_Reader v1 1) fun v2 => wv (vload T G t_api_Errno v2) fun v3 => wv (vbin T .neq t_api_Errno v3 (.int .i64 0)) fun v4 => brB (some v4)
  (Q (.tuple [.str [], .bool false]) G)
  (wv (vnil a0) fun v5 => wv (vfaddr T t_escrowref03_Reader v5 0) fun v6 => wv (vload T G t_string v6) fun v7 => wv (vlen T G t_string v7) fun v8 => wv (vbin T .gtr t_int a1 v8) fun v9 => brB (some v9)
  (ACalls P escrowref03_Reader_breaks.n [a0, .int .i64 2] G fun v10 G11 => Q (.tuple [.str [], .bool false]) G11)
  (wv (vnil a0) fun v12 => wv (vfaddr T t_escrowref03_Reader v12 0) fun v13 => wv (vload T G t_string v13) fun v14 => wv (vslice T t_string v14 none (some (a1)) none) fun v15 => wv (vnil a0) fun v16 => wv (vfaddr T t_escrowref03_Reader v16 0) fun v17 => wv (vload T G t_string v17) fun v18 => wv (vslice T t_string v18 (some (a1)) none none) fun v19 => wv (vnil a0) fun v20 => wv (vfaddr T t_escrowref03_Reader v20 0) fun v21 => wg (vstore T G t_string v21 v19) fun G22 => Q (.tuple [v15, .bool true]) G22))
def escrowref03_Reader_take.an : Ann := .nil
set_option maxRecDepth 100000 in
theorem escrowref03_Reader_take.sound {a0 a1 : AVal} {G : Heap} {Q : AVal → Heap → Prop} (h : escrowref03_Reader_take.S a0 a1 G Q) : ACalls P escrowref03_Reader_take.n [a0, a1] G Q := by
  have e : escrowref03_Reader_take.S a0 a1 G Q = awp cx (escrowref03_Reader_take.body) escrowref03_Reader_take.an (bodyQ T [.tmp 4, .tmp 5] Q) (envL [a0, a1]) G := by kernel_rfl
  exact ACalls_of_awp cxOk (f := escrowref03_Reader_take.n) (fn := Tryz.f69) (c := escrowref03_Reader_take.body) (an := escrowref03_Reader_take.an) Tryz.func69 (by kernel_rfl) (by kernel_rfl) (by kernel_rfl) (drawsOk_of (by kernel_rfl) (by kernel_rfl)) (by simp [Tryz.f69]) (e ▸ h)

/-! #### (*escrow/escrowref03.Reader).number -/
def escrowref03_Reader_number.S (a0 a1 : AVal) (G : Heap) (Q : AVal → Heap → Prop) : Prop :=
  ACalls P escrowref03_Reader_take.n [a0, a1] G fun v1 G2 => wv (vextract v1 0) fun v3 => wv (vextract v1 1) fun v4 => ACalls P escrowref03_Number.n [v3] G2 fun v5 G6 => Q v5 G6
def escrowref03_Reader_number.an : Ann := .nil
set_option maxRecDepth 100000 in
theorem escrowref03_Reader_number.sound {a0 a1 : AVal} {G : Heap} {Q : AVal → Heap → Prop} (h : escrowref03_Reader_number.S a0 a1 G Q) : ACalls P escrowref03_Reader_number.n [a0, a1] G Q := by
  have e : escrowref03_Reader_number.S a0 a1 G Q = awp cx (escrowref03_Reader_number.body) escrowref03_Reader_number.an (bodyQ T [.tmp 4] Q) (envL [a0, a1]) G := by kernel_rfl
  exact ACalls_of_awp cxOk (f := escrowref03_Reader_number.n) (fn := Tryz.f64) (c := escrowref03_Reader_number.body) (an := escrowref03_Reader_number.an) Tryz.func64 (by kernel_rfl) (by kernel_rfl) (by kernel_rfl) (drawsOk_of (by kernel_rfl) (by kernel_rfl)) (by simp [Tryz.f64]) (e ▸ h)

/-! #### (*escrow/escrowref03.Reader).U8 -/
def escrowref03_Reader_U8.S (a0 : AVal) (G : Heap) (Q : AVal → Heap → Prop) : Prop :=
  ACalls P escrowref03_Reader_number.n [a0, .int .i64 1] G fun v1 G2 => wv (vconv T G2 t_uint64 t_uint8 v1) fun v3 => Q v3 G2
def escrowref03_Reader_U8.an : Ann := .nil
set_option maxRecDepth 100000 in
theorem escrowref03_Reader_U8.sound {a0 : AVal} {G : Heap} {Q : AVal → Heap → Prop} (h : escrowref03_Reader_U8.S a0 G Q) : ACalls P escrowref03_Reader_U8.n [a0] G Q := by
  have e : escrowref03_Reader_U8.S a0 G Q = awp cx (escrowref03_Reader_U8.body) escrowref03_Reader_U8.an (bodyQ T [.tmp 2] Q) (envL [a0]) G := by kernel_rfl
  exact ACalls_of_awp cxOk (f := escrowref03_Reader_U8.n) (fn := Tryz.f38) (c := escrowref03_Reader_U8.body) (an := escrowref03_Reader_U8.an) Tryz.func38 (by kernel_rfl) (by kernel_rfl) (by kernel_rfl) (drawsOk_of (by kernel_rfl) (by kernel_rfl)) (by simp [Tryz.f38]) (e ▸ h)

/-! #### escrow/escrowref12.size -/
def escrowref12_size.S (a0 : AVal) (G : Heap) (Q : AVal → Heap → Prop) : Prop :=
  wv (vindex T t_string a0 (.int .i64 0)) fun v1 => wv (vbin T .eql t_uint8 v1 (.int .u8 1)) fun v2 => brB (some v2)
  (Q (.int .i64 43) G)
  (wv (vindex T t_string a0 (.int .i64 0)) fun v3 => wv (vbin T .eql t_uint8 v3 (.int .u8 2)) fun v4 => brB (some v4)
  (Q (.int .i64 35) G)
  (wv (vindex T t_string a0 (.int .i64 0)) fun v5 => wv (vbin T .neq t_uint8 v5 (.int .u8 3)) fun v6 => brB (some v6)
  (Q (.int .i64 (-1)) G)
  (wv (vlen T G t_string a0) fun v7 => wv (vbin T .lss t_int v7 (.int .i64 5)) fun v8 => brB (some v8)
  (Q (.int .i64 0) G)
  (wv (vslice T t_string a0 (some (.int .i64 3)) (some (.int .i64 5)) none) fun v9 => ACalls P escrowref03_Number.n [v9] G fun v10 G11 => wv (vconv T G11 t_uint64 t_int v10) fun v12 => wv (vbin T .gtr t_int v12 (.int .i64 64)) fun v13 => brB (some v13)
  (Q (.int .i64 (-1)) G11)
  (wv (vbin T .add t_int (.int .i64 5) v12) fun v14 => Q v14 G11)))))
def escrowref12_size.an : Ann := .nil
set_option maxRecDepth 100000 in
theorem escrowref12_size.sound {a0 : AVal} {G : Heap} {Q : AVal → Heap → Prop} (h : escrowref12_size.S a0 G Q) : ACalls P escrowref12_size.n [a0] G Q := by
  have e : escrowref12_size.S a0 G Q = awp cx (escrowref12_size.body) escrowref12_size.an (bodyQ T [.tmp 2] Q) (envL [a0]) G := by kernel_rfl
  exact ACalls_of_awp cxOk (f := escrowref12_size.n) (fn := Tryz.f65) (c := escrowref12_size.body) (an := escrowref12_size.an) Tryz.func65 (by kernel_rfl) (by kernel_rfl) (by kernel_rfl) (drawsOk_of (by kernel_rfl) (by kernel_rfl)) (by simp [Tryz.f65]) (e ▸ h)

/-! #### escrow/escrowref12.hash -/
def escrowref12_hash.S (a0 : AVal) (G : Heap) (Q : AVal → Heap → Prop) : Prop :=
  aNew G (.own (z_api_Hash)) fun i1 G2 => aNew G2 (.own (z_api_Hash)) fun i3 G4 => ∀ R5 : List AVal → Heap → Prop,
  (∀ (x7 x8 x9 x10 : AVal) (G6 : Heap), (wv (vlen T G6 t_string x7) fun v11 => wv (vbin T .lss t_int x10 v11) fun v12 => brB (some v12)
  (wv (vbin T .lss t_int x10 (.int .i64 32)) fun v13 => brB (some v13)
  (wv (vindex T t_string x7 x10) fun v20 => wv (viaddr T t_api_Hash x9 x10) fun v21 => wg (vstore T G6 t_uint8 v21 v20) fun G22 => wv (vbin T .add t_int x10 (.int .i64 1)) fun v23 => R5 [x7, x8, x9, v23] G22)
  (wv (vload T G6 t_api_Hash x9) fun v30 => wg (vstore T G6 t_api_Hash x8 v30) fun G31 => wv (vload T G31 t_api_Hash x8) fun v32 => Q v32 G31))
  (wv (vload T G6 t_api_Hash x9) fun v33 => wg (vstore T G6 t_api_Hash x8 v33) fun G34 => wv (vload T G34 t_api_Hash x8) fun v35 => Q v35 G34)) → R5 [x7, x8, x9, x10] G6) →
  R5 [a0, .ptr i1 [] 0, .ptr i3 [] 0, .int .i64 0] G4
def escrowref12_hash.an : Ann := .two (.nil) (.two (.nil) (.two (.two (.nil) (.loop [0, 2, 3, 4] (.nil))) (.nil)))
set_option maxRecDepth 100000 in
theorem escrowref12_hash.sound {a0 : AVal} {G : Heap} {Q : AVal → Heap → Prop} (h : escrowref12_hash.S a0 G Q) : ACalls P escrowref12_hash.n [a0] G Q := by
  have e : escrowref12_hash.S a0 G Q = awp cx (escrowref12_hash.body) escrowref12_hash.an (bodyQ T [.cell 2 23] Q) (envL [a0]) G := by kernel_rfl
  exact ACalls_of_awp cxOk (f := escrowref12_hash.n) (fn := Tryz.f67) (c := escrowref12_hash.body) (an := escrowref12_hash.an) Tryz.func67 (by kernel_rfl) (by kernel_rfl) (by kernel_rfl) (drawsOk_of (by kernel_rfl) (by kernel_rfl)) (by simp [Tryz.f67]) (e ▸ h)

/-! #### escrow/escrowref12.Read -/
def escrowref12_Read.S (a0 : AVal) (G : Heap) (Q : AVal → Heap → Prop) : Prop :=
  aNew G (.own (z_api_Update)) fun i1 G2 => wv (vbuild T t_api_Update []) fun v3 => aNew G2 (.own (z_api_Update)) fun i4 G5 => wg (vstore T G5 t_api_Update (.ptr i4 [] 0) v3) fun G6 => wv (vbin T .eql t_string a0 (.str [])) fun v7 => brB (some v7)
  (wv (vload T G6 t_api_Update (.ptr i4 [] 0)) fun v8 => wg (vstore T G6 t_api_Update (.ptr i1 [] 0) v8) fun G9 => wv (vload T G9 t_api_Update (.ptr i1 [] 0)) fun v10 => Q (.tuple [v10, .int .i64 0, .int .i64 2]) G9)
  (ACalls P escrowref12_size.n [a0] G6 fun v11 G12 => wv (vbin T .lss t_int v11 (.int .i64 0)) fun v13 => brB (some v13)
  (wv (vload T G12 t_api_Update (.ptr i4 [] 0)) fun v14 => wg (vstore T G12 t_api_Update (.ptr i1 [] 0) v14) fun G15 => wv (vload T G15 t_api_Update (.ptr i1 [] 0)) fun v16 => Q (.tuple [v16, .int .i64 0, .int .i64 120]) G15)
  (let J71 : AVal → Heap → Prop := (fun x21 G20 => brB (some x21)
  (wv (vload T G20 t_api_Update (.ptr i4 [] 0)) fun v22 => wg (vstore T G20 t_api_Update (.ptr i1 [] 0) v22) fun G23 => wv (vload T G23 t_api_Update (.ptr i1 [] 0)) fun v24 => Q (.tuple [v24, .int .i64 0, .int .i64 2]) G23)
  (wv (vindex T t_string a0 (.int .i64 0)) fun v25 => wv (vconv T G20 t_uint8 t_int v25) fun v26 => wv (vslice T t_string a0 (some (.int .i64 1)) (some (.int .i64 3)) none) fun v27 => ACalls P escrowref03_Number.n [v27] G20 fun v28 G29 => wv (vconv T G29 t_uint64 t_int64 v28) fun v30 => wv (vbuild T t_api_Update [(0, v26), (1, v30)]) fun v31 => aNew G29 (.own (z_api_Update)) fun i32 G33 => wg (vstore T G33 t_api_Update (.ptr i32 [] 0) v31) fun G34 => wv (vload T G34 t_int (.ptr i32 [0] 0)) fun v35 => let J70 : Heap → Prop := (fun G59 => wv (vload T G59 t_api_Update (.ptr i32 [] 0)) fun v60 => ACalls P escrowref12_Valid.n [v60] G59 fun v61 G62 => wv (vun .not v61) fun v63 => brB (some v63)
  (wv (vload T G62 t_api_Update (.ptr i4 [] 0)) fun v64 => wg (vstore T G62 t_api_Update (.ptr i1 [] 0) v64) fun G65 => wv (vload T G65 t_api_Update (.ptr i1 [] 0)) fun v66 => Q (.tuple [v66, .int .i64 0, .int .i64 120]) G65)
  (wv (vload T G62 t_api_Update (.ptr i32 [] 0)) fun v67 => wg (vstore T G62 t_api_Update (.ptr i1 [] 0) v67) fun G68 => wv (vload T G68 t_api_Update (.ptr i1 [] 0)) fun v69 => Q (.tuple [v69, v11, .int .i64 0]) G68));
  wv (vbin T .eql t_int v35 (.int .i64 1)) fun v36 => brB (some v36)
  (wv (vslice T t_string a0 (some (.int .i64 3)) (some (.int .i64 11)) none) fun v37 => ACalls P escrowref03_Number.n [v37] G34 fun v38 G39 => wv (vbin T .gtr t_uint64 v38 (.int .u64 1152921504606846976)) fun v40 => brB (some v40)
  (wv (vload T G39 t_api_Update (.ptr i4 [] 0)) fun v41 => wg (vstore T G39 t_api_Update (.ptr i1 [] 0) v41) fun G42 => wv (vload T G42 t_api_Update (.ptr i1 [] 0)) fun v43 => Q (.tuple [v43, .int .i64 0, .int .i64 120]) G42)
  (wv (vconv T G39 t_uint64 t_int64 v38) fun v44 => wg (vstore T G39 t_int64 (.ptr i32 [2] 2) v44) fun G45 => wv (vslice T t_string a0 (some (.int .i64 11)) (some (.int .i64 43)) none) fun v46 => ACalls P escrowref12_hash.n [v46] G45 fun v47 G48 => wg (vstore T G48 t_api_Hash (.ptr i32 [3] 3) v47) fun G49 => J70 G49))
  (wv (vbin T .eql t_int v35 (.int .i64 2)) fun v50 => brB (some v50)
  (wv (vslice T t_string a0 (some (.int .i64 3)) (some (.int .i64 35)) none) fun v51 => ACalls P escrowref12_hash.n [v51] G34 fun v52 G53 => wg (vstore T G53 t_api_Hash (.ptr i32 [3] 3) v52) fun G54 => J70 G54)
  (wv (vslice T t_string a0 (some (.int .i64 5)) (some (v11)) none) fun v55 => wg (vstore T G34 t_string (.ptr i32 [4] 35) v55) fun G56 => J70 G56))));
  wv (vbin T .eql t_int v11 (.int .i64 0)) fun v17 => brB (some v17)
  (J71 (.bool true) G12)
  (wv (vlen T G12 t_string a0) fun v18 => wv (vbin T .lss t_int v18 v11) fun v19 => J71 v19 G12)))
def escrowref12_Read.an : Ann := .two (.nil) (.two (.nil) (.two (.nil) (.two (.nil) (.two (.nil) (.two (.nil) (.two (.ord [(0, []), (1, []), (2, []), (3, []), (4, []), (5, []), (6, []), (7, []), (8, []), (9, [])]) (.nil)))))))
set_option maxRecDepth 100000 in
theorem escrowref12_Read.sound {a0 : AVal} {G : Heap} {Q : AVal → Heap → Prop} (h : escrowref12_Read.S a0 G Q) : ACalls P escrowref12_Read.n [a0] G Q := by
  have e : escrowref12_Read.S a0 G Q = awp cx (escrowref12_Read.body) escrowref12_Read.an (bodyQ T [.cell 2 25, .tmp 3, .tmp 4] Q) (envL [a0]) G := by kernel_rfl
  exact ACalls_of_awp cxOk (f := escrowref12_Read.n) (fn := Tryz.f39) (c := escrowref12_Read.body) (an := escrowref12_Read.an) Tryz.func39 (by kernel_rfl) (by kernel_rfl) (by kernel_rfl) (drawsOk_of (by kernel_rfl) (by kernel_rfl)) (by simp [Tryz.f39]) (e ▸ h)

/-! #### (*escrow/escrowref03.Reader).Rest -/
def escrowref03_Reader_Rest.S (a0 : AVal) (G : Heap) (Q : AVal → Heap → Prop) : Prop :=
  wv (vnil a0) fun v1 => wv (vfaddr T t_escrowref03_Reader v1 1) fun v2 => wv (vload T G t_api_Errno v2) fun v3 => wv (vbin T .neq t_api_Errno v3 (.int .i64 0)) fun v4 => brB (some v4)
  (Q (.str []) G)
  (wv (vnil a0) fun v5 => wv (vfaddr T t_escrowref03_Reader v5 0) fun v6 => wv (vload T G t_string v6) fun v7 => Q v7 G)
def escrowref03_Reader_Rest.an : Ann := .nil
set_option maxRecDepth 100000 in
theorem escrowref03_Reader_Rest.sound {a0 : AVal} {G : Heap} {Q : AVal → Heap → Prop} (h : escrowref03_Reader_Rest.S a0 G Q) : ACalls P escrowref03_Reader_Rest.n [a0] G Q := by
  have e : escrowref03_Reader_Rest.S a0 G Q = awp cx (escrowref03_Reader_Rest.body) escrowref03_Reader_Rest.an (bodyQ T [.tmp 2] Q) (envL [a0]) G := by kernel_rfl
  exact ACalls_of_awp cxOk (f := escrowref03_Reader_Rest.n) (fn := Tryz.f40) (c := escrowref03_Reader_Rest.body) (an := escrowref03_Reader_Rest.an) Tryz.func40 (by kernel_rfl) (by kernel_rfl) (by kernel_rfl) (drawsOk_of (by kernel_rfl) (by kernel_rfl)) (by simp [Tryz.f40]) (e ▸ h)

/-! #### (*escrow/escrowref03.Reader).Raw -/
def escrowref03_Reader_Raw.S (a0 a1 : AVal) (G : Heap) (Q : AVal → Heap → Prop) : Prop :=
  wv (vbin T .lss t_int a1 (.int .i64 0)) fun v1 => brB (some v1)
  (ACalls P escrowref03_Reader_breaks.n [a0, .int .i64 1] G fun v2 G3 => Q (.str []) G3)
  (ACalls P escrowref03_Reader_take.n [a0, a1] G fun v4 G5 => wv (vextract v4 0) fun v6 => wv (vextract v4 1) fun v7 => Q v6 G5)
def escrowref03_Reader_Raw.an : Ann := .nil
set_option maxRecDepth 100000 in
theorem escrowref03_Reader_Raw.sound {a0 a1 : AVal} {G : Heap} {Q : AVal → Heap → Prop} (h : escrowref03_Reader_Raw.S a0 a1 G Q) : ACalls P escrowref03_Reader_Raw.n [a0, a1] G Q := by
  have e : escrowref03_Reader_Raw.S a0 a1 G Q = awp cx (escrowref03_Reader_Raw.body) escrowref03_Reader_Raw.an (bodyQ T [.tmp 4] Q) (envL [a0, a1]) G := by kernel_rfl
  exact ACalls_of_awp cxOk (f := escrowref03_Reader_Raw.n) (fn := Tryz.f41) (c := escrowref03_Reader_Raw.body) (an := escrowref03_Reader_Raw.an) Tryz.func41 (by kernel_rfl) (by kernel_rfl) (by kernel_rfl) (drawsOk_of (by kernel_rfl) (by kernel_rfl)) (by simp [Tryz.f41]) (e ▸ h)

/-! #### (*escrow/escrowref03.Reader).I64 -/
def escrowref03_Reader_I64.S (a0 : AVal) (G : Heap) (Q : AVal → Heap → Prop) : Prop :=
  ACalls P escrowref03_Reader_number.n [a0, .int .i64 8] G fun v1 G2 => wv (vconv T G2 t_uint64 t_int64 v1) fun v3 => Q v3 G2
def escrowref03_Reader_I64.an : Ann := .nil
set_option maxRecDepth 100000 in
theorem escrowref03_Reader_I64.sound {a0 : AVal} {G : Heap} {Q : AVal → Heap → Prop} (h : escrowref03_Reader_I64.S a0 G Q) : ACalls P escrowref03_Reader_I64.n [a0] G Q := by
  have e : escrowref03_Reader_I64.S a0 G Q = awp cx (escrowref03_Reader_I64.body) escrowref03_Reader_I64.an (bodyQ T [.tmp 2] Q) (envL [a0]) G := by kernel_rfl
  exact ACalls_of_awp cxOk (f := escrowref03_Reader_I64.n) (fn := Tryz.f42) (c := escrowref03_Reader_I64.body) (an := escrowref03_Reader_I64.an) Tryz.func42 (by kernel_rfl) (by kernel_rfl) (by kernel_rfl) (drawsOk_of (by kernel_rfl) (by kernel_rfl)) (by simp [Tryz.f42]) (e ▸ h)

/-! #### (*escrow/escrowref03.Reader).U16 -/
def escrowref03_Reader_U16.S (a0 : AVal) (G : Heap) (Q : AVal → Heap → Prop) : Prop :=
  ACalls P escrowref03_Reader_number.n [a0, .int .i64 2] G fun v1 G2 => wv (vconv T G2 t_uint64 t_uint16 v1) fun v3 => Q v3 G2
def escrowref03_Reader_U16.an : Ann := .nil
set_option maxRecDepth 100000 in
theorem escrowref03_Reader_U16.sound {a0 : AVal} {G : Heap} {Q : AVal → Heap → Prop} (h : escrowref03_Reader_U16.S a0 G Q) : ACalls P escrowref03_Reader_U16.n [a0] G Q := by
  have e : escrowref03_Reader_U16.S a0 G Q = awp cx (escrowref03_Reader_U16.body) escrowref03_Reader_U16.an (bodyQ T [.tmp 2] Q) (envL [a0]) G := by kernel_rfl
  exact ACalls_of_awp cxOk (f := escrowref03_Reader_U16.n) (fn := Tryz.f70) (c := escrowref03_Reader_U16.body) (an := escrowref03_Reader_U16.an) Tryz.func70 (by kernel_rfl) (by kernel_rfl) (by kernel_rfl) (drawsOk_of (by kernel_rfl) (by kernel_rfl)) (by simp [Tryz.f70]) (e ▸ h)

/-! #### escrow/escrowref17.count -/
def escrowref17_count.S (a0 : AVal) (G : Heap) (Q : AVal → Heap → Prop) : Prop :=
  ACalls P escrowref03_Reader_U16.n [a0] G fun v1 G2 => wv (vconv T G2 t_uint16 t_int v1) fun v3 => Q v3 G2
def escrowref17_count.an : Ann := .nil
set_option maxRecDepth 100000 in
theorem escrowref17_count.sound {a0 : AVal} {G : Heap} {Q : AVal → Heap → Prop} (h : escrowref17_count.S a0 G Q) : ACalls P escrowref17_count.n [a0] G Q := by
  have e : escrowref17_count.S a0 G Q = awp cx (escrowref17_count.body) escrowref17_count.an (bodyQ T [.tmp 2] Q) (envL [a0]) G := by kernel_rfl
  exact ACalls_of_awp cxOk (f := escrowref17_count.n) (fn := Tryz.f43) (c := escrowref17_count.body) (an := escrowref17_count.an) Tryz.func43 (by kernel_rfl) (by kernel_rfl) (by kernel_rfl) (drawsOk_of (by kernel_rfl) (by kernel_rfl)) (by simp [Tryz.f43]) (e ▸ h)

/-! #### escrow/escrowref17.came -/
def escrowref17_came.S (a0 : AVal) (G : Heap) (Q : AVal → Heap → Prop) : Prop :=
  ACalls P escrowref17_count.n [a0] G fun v1 G2 => ∀ R3 : List AVal → Heap → Prop,
  (∀ (x5 x6 x7 x8 : AVal) (G4 : Heap), (wv (vbin T .lss t_int x8 x6) fun v9 => brB (some v9)
  (ACalls P escrowref03_Reader_Rest.n [x5] G4 fun v10 G11 => ACalls P escrowref12_Read.n [v10] G11 fun v12 G13 => wv (vextract v12 0) fun v14 => wv (vextract v12 1) fun v15 => wv (vextract v12 2) fun v16 => aNew G13 (.own (z_api_Update)) fun i17 G18 => wg (vstore T G18 t_api_Update (.ptr i17 [] 0) v14) fun G19 => wv (vbin T .neq t_api_Errno v16 (.int .i64 0)) fun v20 => brB (some v20)
  (Q (.tuple [.nilSlice, .bool false]) G19)
  (ACalls P escrowref03_Reader_Raw.n [x5, v15] G19 fun v21 G22 => wv (vload T G22 t_api_Update (.ptr i17 [] 0)) fun v23 => aBuildSlice T t_sl_api_Update 1 [(0, v23)] G22 fun v24 G25 => aAppend T G25 t_sl_api_Update t_sl_api_Update x7 v24 fun v26 G27 => wv (vbin T .add t_int x8 (.int .i64 1)) fun v28 => R3 [x5, x6, v26, v28] G27))
  (Q (.tuple [x7, .bool true]) G4)) → R3 [x5, x6, x7, x8] G4) →
  R3 [a0, v1, .nilSlice, .int .i64 0] G2
def escrowref17_came.an : Ann := .two (.nil) (.two (.nil) (.two (.nil) (.two (.two (.nil) (.loop [0, 4, 5, 6] (.nil))) (.nil))))
set_option maxRecDepth 100000 in
theorem escrowref17_came.sound {a0 : AVal} {G : Heap} {Q : AVal → Heap → Prop} (h : escrowref17_came.S a0 G Q) : ACalls P escrowref17_came.n [a0] G Q := by
  have e : escrowref17_came.S a0 G Q = awp cx (escrowref17_came.body) escrowref17_came.an (bodyQ T [.tmp 2, .tmp 3] Q) (envL [a0]) G := by kernel_rfl
  exact ACalls_of_awp cxOk (f := escrowref17_came.n) (fn := Tryz.f44) (c := escrowref17_came.body) (an := escrowref17_came.an) Tryz.func44 (by kernel_rfl) (by kernel_rfl) (by kernel_rfl) (drawsOk_of (by kernel_rfl) (by kernel_rfl)) (by simp [Tryz.f44]) (e ▸ h)

/-! #### (*escrow/escrowref03.Reader).Hash -/
def escrowref03_Reader_Hash.S (a0 : AVal) (G : Heap) (Q : AVal → Heap → Prop) : Prop :=
  aNew G (.own (z_api_Hash)) fun i1 G2 => aNew G2 (.own (z_api_Hash)) fun i3 G4 => ACalls P escrowref03_Reader_take.n [a0, .int .i64 32] G4 fun v5 G6 => wv (vextract v5 0) fun v7 => wv (vextract v5 1) fun v8 => ∀ R9 : List AVal → Heap → Prop,
  (∀ (x11 x12 x13 x14 : AVal) (G10 : Heap), (wv (vlen T G10 t_string x13) fun v15 => wv (vbin T .lss t_int x14 v15) fun v16 => brB (some v16)
  (wv (vindex T t_string x13 x14) fun v17 => wv (viaddr T t_api_Hash x12 x14) fun v18 => wg (vstore T G10 t_uint8 v18 v17) fun G19 => wv (vbin T .add t_int x14 (.int .i64 1)) fun v20 => R9 [x11, x12, x13, v20] G19)
  (wv (vload T G10 t_api_Hash x12) fun v21 => wg (vstore T G10 t_api_Hash x11 v21) fun G22 => wv (vload T G22 t_api_Hash x11) fun v23 => Q v23 G22)) → R9 [x11, x12, x13, x14] G10) →
  R9 [.ptr i1 [] 0, .ptr i3 [] 0, v7, .int .i64 0] G6
def escrowref03_Reader_Hash.an : Ann := .two (.nil) (.two (.nil) (.two (.nil) (.two (.two (.nil) (.loop [2, 3, 4, 6] (.nil))) (.nil))))
set_option maxRecDepth 100000 in
theorem escrowref03_Reader_Hash.sound {a0 : AVal} {G : Heap} {Q : AVal → Heap → Prop} (h : escrowref03_Reader_Hash.S a0 G Q) : ACalls P escrowref03_Reader_Hash.n [a0] G Q := by
  have e : escrowref03_Reader_Hash.S a0 G Q = awp cx (escrowref03_Reader_Hash.body) escrowref03_Reader_Hash.an (bodyQ T [.cell 2 23] Q) (envL [a0]) G := by kernel_rfl
  exact ACalls_of_awp cxOk (f := escrowref03_Reader_Hash.n) (fn := Tryz.f45) (c := escrowref03_Reader_Hash.body) (an := escrowref03_Reader_Hash.an) Tryz.func45 (by kernel_rfl) (by kernel_rfl) (by kernel_rfl) (drawsOk_of (by kernel_rfl) (by kernel_rfl)) (by simp [Tryz.f45]) (e ▸ h)

/-! #### (*escrow/escrowref03.Reader).Err -/
def escrowref03_Reader_Err.S (a0 : AVal) (G : Heap) (Q : AVal → Heap → Prop) : Prop :=
  wv (vnil a0) fun v1 => wv (vfaddr T t_escrowref03_Reader v1 1) fun v2 => wv (vload T G t_api_Errno v2) fun v3 => Q v3 G
def escrowref03_Reader_Err.an : Ann := .nil
set_option maxRecDepth 100000 in
theorem escrowref03_Reader_Err.sound {a0 : AVal} {G : Heap} {Q : AVal → Heap → Prop} (h : escrowref03_Reader_Err.S a0 G Q) : ACalls P escrowref03_Reader_Err.n [a0] G Q := by
  have e : escrowref03_Reader_Err.S a0 G Q = awp cx (escrowref03_Reader_Err.body) escrowref03_Reader_Err.an (bodyQ T [.tmp 2] Q) (envL [a0]) G := by kernel_rfl
  exact ACalls_of_awp cxOk (f := escrowref03_Reader_Err.n) (fn := Tryz.f46) (c := escrowref03_Reader_Err.body) (an := escrowref03_Reader_Err.an) Tryz.func46 (by kernel_rfl) (by kernel_rfl) (by kernel_rfl) (drawsOk_of (by kernel_rfl) (by kernel_rfl)) (by simp [Tryz.f46]) (e ▸ h)

/-! #### escrow/escrowref17.Read -/
def escrowref17_Read.S (a0 : AVal) (G : Heap) (Q : AVal → Heap → Prop) : Prop :=
  aNew G (.own (z_api_Record)) fun i1 G2 => ACalls P escrowref03_Open.n [a0] G2 fun v3 G4 => ACalls P escrowref03_Reader_U8.n [v3] G4 fun v5 G6 => wv (vconv T G6 t_uint8 t_int v5) fun v7 => wv (vbuild T t_api_Record [(0, v7)]) fun v8 => aNew G6 (.own (z_api_Record)) fun i9 G10 => wg (vstore T G10 t_api_Record (.ptr i9 [] 0) v8) fun G11 => wv (vload T G11 t_int (.ptr i9 [0] 0)) fun v12 => let J100 : AVal → Heap → Prop := (fun x79 G78 => wv (vload T G78 t_api_Record (.ptr i9 [] 0)) fun v80 => ACalls P escrowref17_Write.n [v80] G78 fun v81 G82 => wv (vextract v81 0) fun v83 => wv (vextract v81 1) fun v84 => let J99 : AVal → Heap → Prop := (fun x91 G90 => brB (some x91)
  (wv (vbuild T t_api_Record []) fun v92 => wg (vstore T G90 t_api_Record (.ptr i1 [] 0) v92) fun G93 => wv (vload T G93 t_api_Record (.ptr i1 [] 0)) fun v94 => Q (.tuple [v94, .int .i64 0, .int .i64 170]) G93)
  (wv (vload T G90 t_api_Record (.ptr i9 [] 0)) fun v95 => wv (vlen T G90 t_string v83) fun v96 => wg (vstore T G90 t_api_Record (.ptr i1 [] 0) v95) fun G97 => wv (vload T G97 t_api_Record (.ptr i1 [] 0)) fun v98 => Q (.tuple [v98, v96, .int .i64 0]) G97));
  wv (vun .not x79) fun v85 => brB (some v85)
  (J99 (.bool true) G82)
  (ACalls P escrowref03_Reader_Err.n [v3] G82 fun v86 G87 => wv (vbin T .neq t_api_Errno v86 (.int .i64 0)) fun v88 => brB (some v88)
  (J99 (.bool true) G87)
  (wv (vbin T .neq t_api_Errno v84 (.int .i64 0)) fun v89 => J99 v89 G87)));
  wv (vbin T .eql t_int v12 (.int .i64 1)) fun v13 => brB (some v13)
  (ACalls P escrowref03_Reader_Rest.n [v3] G11 fun v14 G15 => ACalls P escrowref12_Read.n [v14] G15 fun v16 G17 => wv (vextract v16 0) fun v18 => wv (vextract v16 1) fun v19 => wv (vextract v16 2) fun v20 => aNew G17 (.own (z_api_Update)) fun i21 G22 => wg (vstore T G22 t_api_Update (.ptr i21 [] 0) v18) fun G23 => wv (vbin T .eql t_api_Errno v20 (.int .i64 0)) fun v24 => ACalls P escrowref03_Reader_Raw.n [v3, v19] G23 fun v25 G26 => wv (vload T G26 t_api_Update (.ptr i21 [] 0)) fun v27 => wg (vstore T G26 t_api_Update (.ptr i9 [1] 1) v27) fun G28 => J100 v24 G28)
  (wv (vbin T .eql t_int v12 (.int .i64 2)) fun v29 => brB (some v29)
  (ACalls P escrowref03_Reader_I64.n [v3] G11 fun v30 G31 => wg (vstore T G31 t_int64 (.ptr i9 [3] 38) v30) fun G32 => ACalls P escrowref17_count.n [v3] G32 fun v33 G34 => wg (vstore T G34 t_int (.ptr i9 [4, 0] 39) v33) fun G35 => ACalls P escrowref17_count.n [v3] G35 fun v36 G37 => wg (vstore T G37 t_int (.ptr i9 [4, 1] 40) v36) fun G38 => J100 (.bool true) G38)
  (wv (vbin T .eql t_int v12 (.int .i64 3)) fun v39 => brB (some v39)
  (ACalls P escrowref03_Reader_I64.n [v3] G11 fun v40 G41 => wg (vstore T G41 t_int64 (.ptr i9 [3] 38) v40) fun G42 => ACalls P escrowref17_came.n [v3] G42 fun v43 G44 => wv (vextract v43 0) fun v45 => wv (vextract v43 1) fun v46 => wg (vstore T G44 t_sl_api_Update (.ptr i9 [2] 37) v45) fun G47 => ACalls P escrowref03_Reader_Hash.n [v3] G47 fun v48 G49 => wg (vstore T G49 t_api_Hash (.ptr i9 [5] 41) v48) fun G50 => J100 v46 G50)
  (wv (vbin T .eql t_int v12 (.int .i64 4)) fun v51 => brB (some v51)
  (ACalls P escrowref03_Reader_I64.n [v3] G11 fun v52 G53 => wg (vstore T G53 t_int64 (.ptr i9 [3] 38) v52) fun G54 => ACalls P escrowref03_Reader_Hash.n [v3] G54 fun v55 G56 => wg (vstore T G56 t_api_Hash (.ptr i9 [6] 73) v55) fun G57 => ACalls P escrowref03_Reader_Hash.n [v3] G57 fun v58 G59 => wg (vstore T G59 t_api_Hash (.ptr i9 [7] 105) v58) fun G60 => J100 (.bool true) G60)
  (wv (vbin T .eql t_int v12 (.int .i64 5)) fun v61 => brB (some v61)
  (ACalls P escrowref17_count.n [v3] G11 fun v62 G63 => wg (vstore T G63 t_int (.ptr i9 [8] 137) v62) fun G64 => J100 (.bool true) G64)
  (wv (vbin T .eql t_int v12 (.int .i64 6)) fun v65 => brB (some v65)
  (ACalls P escrowref03_Reader_I64.n [v3] G11 fun v66 G67 => wg (vstore T G67 t_int64 (.ptr i9 [3] 38) v66) fun G68 => J100 (.bool true) G68)
  (J100 (.bool true) G11))))))
def escrowref17_Read.an : Ann := .nil
set_option maxRecDepth 100000 in
theorem escrowref17_Read.sound {a0 : AVal} {G : Heap} {Q : AVal → Heap → Prop} (h : escrowref17_Read.S a0 G Q) : ACalls P escrowref17_Read.n [a0] G Q := by
  have e : escrowref17_Read.S a0 G Q = awp cx (escrowref17_Read.body) escrowref17_Read.an (bodyQ T [.cell 2 30, .tmp 3, .tmp 4] Q) (envL [a0]) G := by kernel_rfl
  exact ACalls_of_awp cxOk (f := escrowref17_Read.n) (fn := Tryz.f11) (c := escrowref17_Read.body) (an := escrowref17_Read.an) Tryz.func11 (by kernel_rfl) (by kernel_rfl) (by kernel_rfl) (drawsOk_of (by kernel_rfl) (by kernel_rfl)) (by simp [Tryz.f11]) (e ▸ h)

/-! #### escrow/escrowlaw17.stays -/
def escrowlaw17_stays.S (a0 a1 : AVal) (G : Heap) (Q : AVal → Heap → Prop) : Prop :=
  let J31 : AVal → Heap → Prop := (fun x17 G16 => brB (some x17)
  (Q (.bool false) G16)
  (∀ R18 : List AVal → Heap → Prop,
  (∀ (x20 x21 x22 : AVal) (G19 : Heap), (wv (vlen T G19 t_sl_api_Update x21) fun v23 => wv (vbin T .lss t_int x22 v23) fun v24 => brB (some v24)
  (wv (viaddr T t_sl_api_Update x20 x22) fun v25 => wv (vload T G19 t_api_Update v25) fun v26 => wv (viaddr T t_sl_api_Update x21 x22) fun v27 => wv (vload T G19 t_api_Update v27) fun v28 => wv (vbin T .neq t_api_Update v26 v28) fun v29 => brB (some v29)
  (Q (.bool false) G19)
  (wv (vbin T .add t_int x22 (.int .i64 1)) fun v30 => R18 [x20, x21, v30] G19))
  (Q (.bool true) G19)) → R18 [x20, x21, x22] G19) →
  R18 [a0, a1, .int .i64 0] G16));
  wv (vlen T G t_sl_api_Update a0) fun v1 => wv (vlen T G t_sl_api_Update a1) fun v2 => wv (vbin T .add t_int v2 (.int .i64 2)) fun v3 => wv (vbin T .neq t_int v1 v3) fun v4 => brB (some v4)
  (J31 (.bool true) G)
  (wv (vlen T G t_sl_api_Update a1) fun v5 => wv (viaddr T t_sl_api_Update a0 v5) fun v6 => wv (vload T G t_api_Update v6) fun v7 => wv (vbuild T t_api_Update [(0, .int .i64 77)]) fun v8 => wv (vbin T .neq t_api_Update v7 v8) fun v9 => brB (some v9)
  (J31 (.bool true) G)
  (wv (vlen T G t_sl_api_Update a1) fun v10 => wv (vbin T .add t_int v10 (.int .i64 1)) fun v11 => wv (viaddr T t_sl_api_Update a0 v11) fun v12 => wv (vload T G t_api_Update v12) fun v13 => wv (vbuild T t_api_Update [(4, .str [109, 97, 114, 107])]) fun v14 => wv (vbin T .neq t_api_Update v13 v14) fun v15 => J31 v15 G))
def escrowlaw17_stays.an : Ann := .two (.nil) (.two (.nil) (.two (.two (.nil) (.loop [0, 1, 5] (.two (.nil) (.two (.two (.ord [(0, []), (1, []), (2, []), (3, []), (4, []), (5, []), (6, []), (7, []), (8, [])]) (.nil)) (.nil))))) (.nil)))
set_option maxRecDepth 100000 in
theorem escrowlaw17_stays.sound {a0 a1 : AVal} {G : Heap} {Q : AVal → Heap → Prop} (h : escrowlaw17_stays.S a0 a1 G Q) : ACalls P escrowlaw17_stays.n [a0, a1] G Q := by
  have e : escrowlaw17_stays.S a0 a1 G Q = awp cx (escrowlaw17_stays.body) escrowlaw17_stays.an (bodyQ T [.tmp 4] Q) (envL [a0, a1]) G := by kernel_rfl
  exact ACalls_of_awp cxOk (f := escrowlaw17_stays.n) (fn := Tryz.f12) (c := escrowlaw17_stays.body) (an := escrowlaw17_stays.an) Tryz.func12 (by kernel_rfl) (by kernel_rfl) (by kernel_rfl) (drawsOk_of (by kernel_rfl) (by kernel_rfl)) (by simp [Tryz.f12]) (e ▸ h)

/-! #### escrow/escrowlaw17.RecordBytes -/
def escrowlaw17_RecordBytes.S (a0 a1 : AVal) (G : Heap) (Q : AVal → Heap → Prop) : Prop :=
  aNew G (.own (a0)) fun i1 G2 => ACalls P escrowlaw17_head.n [] G2 fun v3 G4 => wv (vun .not v3) fun v5 => brB (some v5)
  (Q (.bool false) G4)
  (wv (vload T G4 t_api_Record (.ptr i1 [] 0)) fun v6 => ACalls P escrowref17_Write.n [v6] G4 fun v7 G8 => wv (vextract v7 0) fun v9 => wv (vextract v7 1) fun v10 => wv (vload T G8 t_api_Record (.ptr i1 [] 0)) fun v11 => ACalls P escrowlaw17_lent.n [v11] G8 fun v12 G13 => wv (vextract v12 0) fun v14 => wv (vextract v12 1) fun v15 => aNew G13 (.own (z_api_Record)) fun i16 G17 => wg (vstore T G17 t_api_Record (.ptr i16 [] 0) v14) fun G18 => wv (vload T G18 t_api_Record (.ptr i16 [] 0)) fun v19 => ACalls P record_Write.n [v19] G18 fun v20 G21 => wv (vextract v20 0) fun v22 => wv (vextract v20 1) fun v23 => ACalls P record_Read.n [a1] G21 fun v24 G25 => wv (vextract v24 0) fun v26 => wv (vextract v24 1) fun v27 => wv (vextract v24 2) fun v28 => aNew G25 (.own (z_api_Record)) fun i29 G30 => wg (vstore T G30 t_api_Record (.ptr i29 [] 0) v26) fun G31 => ACalls P escrowref17_Read.n [a1] G31 fun v32 G33 => wv (vextract v32 0) fun v34 => wv (vextract v32 1) fun v35 => wv (vextract v32 2) fun v36 => aNew G33 (.own (z_api_Record)) fun i37 G38 => wg (vstore T G38 t_api_Record (.ptr i37 [] 0) v34) fun G39 => wv (vbin T .eql t_string v22 v9) fun v40 => brB (some v40)
  (wv (vbin T .eql t_api_Errno v23 v10) fun v41 => brB (some v41)
  (wv (vload T G39 t_sl_api_Update (.ptr i1 [2] 37)) fun v42 => ACalls P escrowlaw17_stays.n [v15, v42] G39 fun v43 G44 => brB (some v43)
  (wv (vload T G44 t_api_Record (.ptr i29 [] 0)) fun v45 => wv (vload T G44 t_api_Record (.ptr i37 [] 0)) fun v46 => ACalls P escrowref17_Same.n [v45, v46] G44 fun v47 G48 => brB (some v47)
  (wv (vbin T .eql t_int v27 v35) fun v49 => brB (some v49)
  (wv (vbin T .eql t_api_Errno v28 v36) fun v50 => Q v50 G48)
  (Q (.bool false) G48))
  (Q (.bool false) G48))
  (Q (.bool false) G44))
  (Q (.bool false) G39))
  (Q (.bool false) G39))
def escrowlaw17_RecordBytes.an : Ann := .nil
set_option maxRecDepth 100000 in
theorem escrowlaw17_RecordBytes.sound {a0 a1 : AVal} {G : Heap} {Q : AVal → Heap → Prop} (h : escrowlaw17_RecordBytes.S a0 a1 G Q) : ACalls P escrowlaw17_RecordBytes.n [a0, a1] G Q := by
  have e : escrowlaw17_RecordBytes.S a0 a1 G Q = awp cx (escrowlaw17_RecordBytes.body) escrowlaw17_RecordBytes.an (bodyQ T [.tmp 4] Q) (envL [a0, a1]) G := by kernel_rfl
  exact ACalls_of_awp cxOk (f := escrowlaw17_RecordBytes.n) (fn := Tryz.f3) (c := escrowlaw17_RecordBytes.body) (an := escrowlaw17_RecordBytes.an) Tryz.func3 (by kernel_rfl) (by kernel_rfl) (by kernel_rfl) (drawsOk_of (by kernel_rfl) (by kernel_rfl)) (by simp [Tryz.f3]) (e ▸ h)

end Go.Esc.M
