/- Printed by gen.py (own work): the types of the program Ytooeiljhobdfpaa, their table. -/
import Derived.Test.YtooeiljhobdfpaaProg
import Derived.Test.YtooeiljhobdfpaaER
set_option linter.unusedSimpArgs false
set_option linter.unusedVariables false
namespace Go.Esc.M
open Go Go.Esc Go.Proofs

def t_int64 : TypeId := 2
def t_int : TypeId := 3
def t_bool : TypeId := 4
def t_uint8 : TypeId := 5
def t_string : TypeId := 9
def t_sl_api_Update : TypeId := 22
def t_api_Counts : TypeId := 24
def t_sl_api_Pending : TypeId := 27
def t_api_Ledger : TypeId := 29
def t_api_Errno : TypeId := 30
def t_api_Hash : TypeId := 36
def t_api_Pending : TypeId := 38
def t_sl_escrowlaw13_Step : TypeId := 48
def t_ar2_api_Update : TypeId := 50
def t_ar2_int : TypeId := 51
def t_ar2_int64 : TypeId := 52
def t_escrowlaw13_book : TypeId := 54
def t_escrowlaw13_Step : TypeId := 57
def t_uint : TypeId := 60
def t_api_Update : TypeId := 63
def t_ledger_wide : TypeId := 70
def t_map_int64_int : TypeId := 73
def t_escrowref13_Wide : TypeId := 80
def t_sl_int64 : TypeId := 86
def t_uint64 : TypeId := 92
def z_int64 : AVal := .int .i64 0
def ti_int64 : TI := ⟨.int .i64, 1, 8, z_int64⟩
def z_int : AVal := .int .i64 0
def ti_int : TI := ⟨.int .i64, 1, 8, z_int⟩
def z_bool : AVal := .bool false
def ti_bool : TI := ⟨.bool, 1, 1, z_bool⟩
def z_uint8 : AVal := .int .u8 0
def ti_uint8 : TI := ⟨.int .u8, 1, 1, z_uint8⟩
def z_string : AVal := .str []
def ti_string : TI := ⟨.string, 1, 16, z_string⟩
def z_sl_api_Update : AVal := .nilSlice
def ti_sl_api_Update : TI := ⟨.slice t_api_Update, 1, 24, z_sl_api_Update⟩
def z_api_Counts : AVal := .agg [.int .i64 0, .int .i64 0]
def ti_api_Counts : TI := ⟨.struct [(t_int, 0), (t_int, 1)], 2, 16, z_api_Counts⟩
def z_sl_api_Pending : AVal := .nilSlice
def ti_sl_api_Pending : TI := ⟨.slice t_api_Pending, 1, 24, z_sl_api_Pending⟩
def z_api_Ledger : AVal := .agg [.int .i64 0, .int .i64 0, .nilSlice]
def ti_api_Ledger : TI := ⟨.struct [(t_int64, 0), (t_int64, 1), (t_sl_api_Pending, 2)], 3, 40, z_api_Ledger⟩
def z_api_Errno : AVal := .int .i64 0
def ti_api_Errno : TI := ⟨.int .i64, 1, 8, z_api_Errno⟩
def z_api_Hash : AVal := .agg (List.replicate 32 (.int .u8 0))
def ti_api_Hash : TI := ⟨.array 32 t_uint8, 32, 32, z_api_Hash⟩
def z_api_Pending : AVal := .agg [.bool false, .int .i64 0, .int .i64 0, .agg (List.replicate 32 (.int .u8 0))]
def ti_api_Pending : TI := ⟨.struct [(t_bool, 0), (t_int64, 1), (t_int64, 2), (t_api_Hash, 3)], 35, 56, z_api_Pending⟩
def z_sl_escrowlaw13_Step : AVal := .nilSlice
def ti_sl_escrowlaw13_Step : TI := ⟨.slice t_escrowlaw13_Step, 1, 24, z_sl_escrowlaw13_Step⟩
def z_ar2_api_Update : AVal := .agg (List.replicate 2 (.nilSlice))
def ti_ar2_api_Update : TI := ⟨.array 2 t_sl_api_Update, 2, 48, z_ar2_api_Update⟩
def z_ar2_int : AVal := .agg (List.replicate 2 (.int .i64 0))
def ti_ar2_int : TI := ⟨.array 2 t_int, 2, 16, z_ar2_int⟩
def z_ar2_int64 : AVal := .agg (List.replicate 2 (.int .i64 0))
def ti_ar2_int64 : TI := ⟨.array 2 t_int64, 2, 16, z_ar2_int64⟩
def z_escrowlaw13_book : AVal := .agg [.agg (List.replicate 2 (.nilSlice)), .agg (List.replicate 2 (.int .i64 0)), .agg (List.replicate 2 (.int .i64 0))]
def ti_escrowlaw13_book : TI := ⟨.struct [(t_ar2_api_Update, 0), (t_ar2_int, 2), (t_ar2_int64, 4)], 6, 80, z_escrowlaw13_book⟩
def z_escrowlaw13_Step : AVal := .agg [.int .i64 0, .int .i64 0, .int .i64 0]
def ti_escrowlaw13_Step : TI := ⟨.struct [(t_int, 0), (t_int, 1), (t_int64, 2)], 3, 24, z_escrowlaw13_Step⟩
def z_uint : AVal := .int .u64 0
def ti_uint : TI := ⟨.int .u64, 1, 8, z_uint⟩
def z_api_Update : AVal := .agg [.int .i64 0, .int .i64 0, .int .i64 0, .agg (List.replicate 32 (.int .u8 0)), .str []]
def ti_api_Update : TI := ⟨.struct [(t_int, 0), (t_int64, 1), (t_int64, 2), (t_api_Hash, 3), (t_string, 35)], 36, 72, z_api_Update⟩
def z_ledger_wide : AVal := .agg [.int .i64 0, .int .i64 0]
def ti_ledger_wide : TI := ⟨.struct [(t_int64, 0), (t_int64, 1)], 2, 16, z_ledger_wide⟩
def z_map_int64_int : AVal := .nilMap
def ti_map_int64_int : TI := ⟨.map t_int64 t_int, 1, 8, z_map_int64_int⟩
def z_escrowref13_Wide : AVal := .agg [.int .i64 0, .int .i64 0]
def ti_escrowref13_Wide : TI := ⟨.struct [(t_int64, 0), (t_int64, 1)], 2, 16, z_escrowref13_Wide⟩
def z_sl_int64 : AVal := .nilSlice
def ti_sl_int64 : TI := ⟨.slice t_int64, 1, 24, z_sl_int64⟩
def z_uint64 : AVal := .int .u64 0
def ti_uint64 : TI := ⟨.int .u64, 1, 8, z_uint64⟩
noncomputable abbrev P : Program := Try.prog
theorem tyOk_int64 : TyOk P 2 ti_int64 := TyOk.mk' (by kernel_rfl) (by kernel_rfl) (by kernel_rfl) (by kernel_rfl)
theorem tyOk_int : TyOk P 3 ti_int := TyOk.mk' (by kernel_rfl) (by kernel_rfl) (by kernel_rfl) (by kernel_rfl)
theorem tyOk_bool : TyOk P 4 ti_bool := TyOk.mk' (by kernel_rfl) (by kernel_rfl) (by kernel_rfl) (by kernel_rfl)
theorem tyOk_uint8 : TyOk P 5 ti_uint8 := TyOk.mk' (by kernel_rfl) (by kernel_rfl) (by kernel_rfl) (by kernel_rfl)
theorem tyOk_string : TyOk P 9 ti_string := TyOk.mk' (by kernel_rfl) (by kernel_rfl) (by kernel_rfl) (by kernel_rfl)
theorem tyOk_sl_api_Update : TyOk P 22 ti_sl_api_Update := TyOk.mk' (by kernel_rfl) (by kernel_rfl) (by kernel_rfl) (by kernel_rfl)
theorem tyOk_api_Counts : TyOk P 24 ti_api_Counts := TyOk.mk' (by kernel_rfl) (by kernel_rfl) (by kernel_rfl) (by kernel_rfl)
theorem tyOk_sl_api_Pending : TyOk P 27 ti_sl_api_Pending := TyOk.mk' (by kernel_rfl) (by kernel_rfl) (by kernel_rfl) (by kernel_rfl)
theorem tyOk_api_Ledger : TyOk P 29 ti_api_Ledger := TyOk.mk' (by kernel_rfl) (by kernel_rfl) (by kernel_rfl) (by kernel_rfl)
theorem tyOk_api_Errno : TyOk P 30 ti_api_Errno := TyOk.mk' (by kernel_rfl) (by kernel_rfl) (by kernel_rfl) (by kernel_rfl)
theorem tyOk_api_Hash : TyOk P 36 ti_api_Hash := TyOk.mk' (by kernel_rfl) (by kernel_rfl) (by kernel_rfl) (by kernel_rfl)
theorem tyOk_api_Pending : TyOk P 38 ti_api_Pending := TyOk.mk' (by kernel_rfl) (by kernel_rfl) (by kernel_rfl) (by kernel_rfl)
theorem tyOk_sl_escrowlaw13_Step : TyOk P 48 ti_sl_escrowlaw13_Step := TyOk.mk' (by kernel_rfl) (by kernel_rfl) (by kernel_rfl) (by kernel_rfl)
theorem tyOk_ar2_api_Update : TyOk P 50 ti_ar2_api_Update := TyOk.mk' (by kernel_rfl) (by kernel_rfl) (by kernel_rfl) (by kernel_rfl)
theorem tyOk_ar2_int : TyOk P 51 ti_ar2_int := TyOk.mk' (by kernel_rfl) (by kernel_rfl) (by kernel_rfl) (by kernel_rfl)
theorem tyOk_ar2_int64 : TyOk P 52 ti_ar2_int64 := TyOk.mk' (by kernel_rfl) (by kernel_rfl) (by kernel_rfl) (by kernel_rfl)
theorem tyOk_escrowlaw13_book : TyOk P 54 ti_escrowlaw13_book := TyOk.mk' (by kernel_rfl) (by kernel_rfl) (by kernel_rfl) (by kernel_rfl)
theorem tyOk_escrowlaw13_Step : TyOk P 57 ti_escrowlaw13_Step := TyOk.mk' (by kernel_rfl) (by kernel_rfl) (by kernel_rfl) (by kernel_rfl)
theorem tyOk_uint : TyOk P 60 ti_uint := TyOk.mk' (by kernel_rfl) (by kernel_rfl) (by kernel_rfl) (by kernel_rfl)
theorem tyOk_api_Update : TyOk P 63 ti_api_Update := TyOk.mk' (by kernel_rfl) (by kernel_rfl) (by kernel_rfl) (by kernel_rfl)
theorem tyOk_ledger_wide : TyOk P 70 ti_ledger_wide := TyOk.mk' (by kernel_rfl) (by kernel_rfl) (by kernel_rfl) (by kernel_rfl)
theorem tyOk_map_int64_int : TyOk P 73 ti_map_int64_int := TyOk.mk' (by kernel_rfl) (by kernel_rfl) (by kernel_rfl) (by kernel_rfl)
theorem tyOk_escrowref13_Wide : TyOk P 80 ti_escrowref13_Wide := TyOk.mk' (by kernel_rfl) (by kernel_rfl) (by kernel_rfl) (by kernel_rfl)
theorem tyOk_sl_int64 : TyOk P 86 ti_sl_int64 := TyOk.mk' (by kernel_rfl) (by kernel_rfl) (by kernel_rfl) (by kernel_rfl)
theorem tyOk_uint64 : TyOk P 92 ti_uint64 := TyOk.mk' (by kernel_rfl) (by kernel_rfl) (by kernel_rfl) (by kernel_rfl)
def T : Tbl := (Tbl.cons 2 ti_int64 (Tbl.cons 3 ti_int (Tbl.cons 4 ti_bool (Tbl.cons 5 ti_uint8 (Tbl.cons 9 ti_string (Tbl.cons 22 ti_sl_api_Update (Tbl.cons 24 ti_api_Counts (Tbl.cons 27 ti_sl_api_Pending (Tbl.cons 29 ti_api_Ledger (Tbl.cons 30 ti_api_Errno (Tbl.cons 36 ti_api_Hash (Tbl.cons 38 ti_api_Pending (Tbl.cons 48 ti_sl_escrowlaw13_Step (Tbl.cons 50 ti_ar2_api_Update (Tbl.cons 51 ti_ar2_int (Tbl.cons 52 ti_ar2_int64 (Tbl.cons 54 ti_escrowlaw13_book (Tbl.cons 57 ti_escrowlaw13_Step (Tbl.cons 60 ti_uint (Tbl.cons 63 ti_api_Update (Tbl.cons 70 ti_ledger_wide (Tbl.cons 73 ti_map_int64_int (Tbl.cons 80 ti_escrowref13_Wide (Tbl.cons 86 ti_sl_int64 (Tbl.cons 92 ti_uint64 Tbl.nil)))))))))))))))))))))))))
theorem tblOk : TblOk P T := (TblOk.cons tyOk_int64 (TblOk.cons tyOk_int (TblOk.cons tyOk_bool (TblOk.cons tyOk_uint8 (TblOk.cons tyOk_string (TblOk.cons tyOk_sl_api_Update (TblOk.cons tyOk_api_Counts (TblOk.cons tyOk_sl_api_Pending (TblOk.cons tyOk_api_Ledger (TblOk.cons tyOk_api_Errno (TblOk.cons tyOk_api_Hash (TblOk.cons tyOk_api_Pending (TblOk.cons tyOk_sl_escrowlaw13_Step (TblOk.cons tyOk_ar2_api_Update (TblOk.cons tyOk_ar2_int (TblOk.cons tyOk_ar2_int64 (TblOk.cons tyOk_escrowlaw13_book (TblOk.cons tyOk_escrowlaw13_Step (TblOk.cons tyOk_uint (TblOk.cons tyOk_api_Update (TblOk.cons tyOk_ledger_wide (TblOk.cons tyOk_map_int64_int (TblOk.cons tyOk_escrowref13_Wide (TblOk.cons tyOk_sl_int64 (TblOk.cons tyOk_uint64 TblOk.nil)))))))))))))))))))))))))
theorem T_int64 : T t_int64 = some ti_int64 := rfl
theorem T_int : T t_int = some ti_int := rfl
theorem T_bool : T t_bool = some ti_bool := rfl
theorem T_uint8 : T t_uint8 = some ti_uint8 := rfl
theorem T_string : T t_string = some ti_string := rfl
theorem T_sl_api_Update : T t_sl_api_Update = some ti_sl_api_Update := rfl
theorem T_api_Counts : T t_api_Counts = some ti_api_Counts := rfl
theorem T_sl_api_Pending : T t_sl_api_Pending = some ti_sl_api_Pending := rfl
theorem T_api_Ledger : T t_api_Ledger = some ti_api_Ledger := rfl
theorem T_api_Errno : T t_api_Errno = some ti_api_Errno := rfl
theorem T_api_Hash : T t_api_Hash = some ti_api_Hash := rfl
theorem T_api_Pending : T t_api_Pending = some ti_api_Pending := rfl
theorem T_sl_escrowlaw13_Step : T t_sl_escrowlaw13_Step = some ti_sl_escrowlaw13_Step := rfl
theorem T_ar2_api_Update : T t_ar2_api_Update = some ti_ar2_api_Update := rfl
theorem T_ar2_int : T t_ar2_int = some ti_ar2_int := rfl
theorem T_ar2_int64 : T t_ar2_int64 = some ti_ar2_int64 := rfl
theorem T_escrowlaw13_book : T t_escrowlaw13_book = some ti_escrowlaw13_book := rfl
theorem T_escrowlaw13_Step : T t_escrowlaw13_Step = some ti_escrowlaw13_Step := rfl
theorem T_uint : T t_uint = some ti_uint := rfl
theorem T_api_Update : T t_api_Update = some ti_api_Update := rfl
theorem T_ledger_wide : T t_ledger_wide = some ti_ledger_wide := rfl
theorem T_map_int64_int : T t_map_int64_int = some ti_map_int64_int := rfl
theorem T_escrowref13_Wide : T t_escrowref13_Wide = some ti_escrowref13_Wide := rfl
theorem T_sl_int64 : T t_sl_int64 = some ti_sl_int64 := rfl
theorem T_uint64 : T t_uint64 = some ti_uint64 := rfl
noncomputable def cx : Cx := ⟨P, T, fun _ _ => none⟩
theorem cxOk : CxOk cx := ⟨tblOk, fun _ _ _ h => by cases h⟩
theorem mixed : P.follows .mixedOrders = true := by kernel_rfl
theorem drawsOk_of {c : Code} {an : Ann} (h : drawB cx c an = true) (_ : (0 : Nat) = 0) : drawsOk cx c an := drawsOk_of_check cxOk mixed c an h
def amount_Right.n : FuncId := 59
noncomputable def amount_Right.body : Code := (Try.f59.body).getD .skip
def amount_Plus.n : FuncId := 52
noncomputable def amount_Plus.body : Code := (Try.f52.body).getD .skip
def amount_Sum.n : FuncId := 27
noncomputable def amount_Sum.body : Code := (Try.f27.body).getD .skip
def slices_IndexFunc_escrow_api_Update_escrow_api_Update.n : FuncId := 53
noncomputable def slices_IndexFunc_escrow_api_Update_escrow_api_Update.body : Code := (Try.f53.body).getD .skip
def slices_ContainsFunc_escrow_api_Update_escrow_api_Update.n : FuncId := 28
noncomputable def slices_ContainsFunc_escrow_api_Update_escrow_api_Update.body : Code := (Try.f28.body).getD .skip
def update_Valid.n : FuncId := 54
noncomputable def update_Valid.body : Code := (Try.f54.body).getD .skip
def ledger_invalid.n : FuncId := 29
noncomputable def ledger_invalid.body : Code := (Try.f29.body).getD .skip
def ledger_wide_plus.n : FuncId := 32
noncomputable def ledger_wide_plus.body : Code := (Try.f32.body).getD .skip
def ledger_wide_minus.n : FuncId := 42
noncomputable def ledger_wide_minus.body : Code := (Try.f42.body).getD .skip
def slices_insertionSortCmpFunc_escrow_api_Pending.n : FuncId := 62
noncomputable def slices_insertionSortCmpFunc_escrow_api_Pending.body : Code := (Try.f62.body).getD .skip
def slices_swapRangeCmpFunc_escrow_api_Pending.n : FuncId := 65
noncomputable def slices_swapRangeCmpFunc_escrow_api_Pending.body : Code := (Try.f65.body).getD .skip
def slices_rotateCmpFunc_escrow_api_Pending.n : FuncId := 64
noncomputable def slices_rotateCmpFunc_escrow_api_Pending.body : Code := (Try.f64.body).getD .skip
def slices_symMergeCmpFunc_escrow_api_Pending.n : FuncId := 63
noncomputable def slices_symMergeCmpFunc_escrow_api_Pending.body : Code := (Try.f63.body).getD .skip
def slices_stableCmpFunc_escrow_api_Pending.n : FuncId := 60
noncomputable def slices_stableCmpFunc_escrow_api_Pending.body : Code := (Try.f60.body).getD .skip
def slices_SortStableFunc_escrow_api_Pending_escrow_api_Pending.n : FuncId := 55
noncomputable def slices_SortStableFunc_escrow_api_Pending_escrow_api_Pending.body : Code := (Try.f55.body).getD .skip
def cmp_isNaN_int64.n : FuncId := 61
noncomputable def cmp_isNaN_int64.body : Code := (Try.f61.body).getD .skip
def cmp_Compare_int64.n : FuncId := 57
noncomputable def cmp_Compare_int64.body : Code := (Try.f57.body).getD .skip
def ledger_part_1.n : FuncId := 56
noncomputable def ledger_part_1.body : Code := (Try.f56.body).getD .skip
def ledger_part.n : FuncId := 30
noncomputable def ledger_part.body : Code := (Try.f30.body).getD .skip
def ledger_removals.n : FuncId := 31
noncomputable def ledger_removals.body : Code := (Try.f31.body).getD .skip
def ledger_wide_value.n : FuncId := 33
noncomputable def ledger_wide_value.body : Code := (Try.f33.body).getD .skip
def ledger_Fold.n : FuncId := 10
noncomputable def ledger_Fold.body : Code := (Try.f10.body).getD .skip
def escrowlaw13_SameLedger.n : FuncId := 12
noncomputable def escrowlaw13_SameLedger.body : Code := (Try.f12.body).getD .skip
def ledger_first.n : FuncId := 39
noncomputable def ledger_first.body : Code := (Try.f39.body).getD .skip
def ledger_adds.n : FuncId := 40
noncomputable def ledger_adds.body : Code := (Try.f40.body).getD .skip
def ledger_Spendable_1.n : FuncId := 41
noncomputable def ledger_Spendable_1.body : Code := (Try.f41.body).getD .skip
def ledger_Spendable_2.n : FuncId := 43
noncomputable def ledger_Spendable_2.body : Code := (Try.f43.body).getD .skip
def ledger_Spendable.n : FuncId := 15
noncomputable def ledger_Spendable.body : Code := (Try.f15.body).getD .skip
def ledger_Open_1.n : FuncId := 44
noncomputable def ledger_Open_1.body : Code := (Try.f44.body).getD .skip
def ledger_Open.n : FuncId := 16
noncomputable def ledger_Open.body : Code := (Try.f16.body).getD .skip
def escrowlaw13_first.n : FuncId := 8
noncomputable def escrowlaw13_first.body : Code := (Try.f8.body).getD .skip
def escrowlaw13_lend.n : FuncId := 9
noncomputable def escrowlaw13_lend.body : Code := (Try.f9.body).getD .skip
def escrowref13_amount.n : FuncId := 34
noncomputable def escrowref13_amount.body : Code := (Try.f34.body).getD .skip
def escrowref12_Valid.n : FuncId := 46
noncomputable def escrowref12_Valid.body : Code := (Try.f46.body).getD .skip
def escrowref13_valid.n : FuncId := 35
noncomputable def escrowref13_valid.body : Code := (Try.f35.body).getD .skip
def escrowref13_plus.n : FuncId := 37
noncomputable def escrowref13_plus.body : Code := (Try.f37.body).getD .skip
def escrowref13_removed.n : FuncId := 47
noncomputable def escrowref13_removed.body : Code := (Try.f47.body).getD .skip
def escrowref13_minus.n : FuncId := 48
noncomputable def escrowref13_minus.body : Code := (Try.f48.body).getD .skip
def escrowref13_placed.n : FuncId := 58
noncomputable def escrowref13_placed.body : Code := (Try.f58.body).getD .skip
def escrowref13_side.n : FuncId := 36
noncomputable def escrowref13_side.body : Code := (Try.f36.body).getD .skip
def escrowref13_cut.n : FuncId := 38
noncomputable def escrowref13_cut.body : Code := (Try.f38.body).getD .skip
def escrowref13_Fold.n : FuncId := 11
noncomputable def escrowref13_Fold.body : Code := (Try.f11.body).getD .skip
def escrowlaw13_kept.n : FuncId := 13
noncomputable def escrowlaw13_kept.body : Code := (Try.f13.body).getD .skip
def escrowlaw13_more.n : FuncId := 14
noncomputable def escrowlaw13_more.body : Code := (Try.f14.body).getD .skip
def escrowlaw13_LedgerFolds.n : FuncId := 3
noncomputable def escrowlaw13_LedgerFolds.body : Code := (Try.f3.body).getD .skip
def escrowref13_first.n : FuncId := 45
noncomputable def escrowref13_first.body : Code := (Try.f45.body).getD .skip
def escrowref13_Spendable.n : FuncId := 17
noncomputable def escrowref13_Spendable.body : Code := (Try.f17.body).getD .skip
def escrowref13_Open.n : FuncId := 18
noncomputable def escrowref13_Open.body : Code := (Try.f18.body).getD .skip
def escrowlaw13_LedgerSpends.n : FuncId := 4
noncomputable def escrowlaw13_LedgerSpends.body : Code := (Try.f4.body).getD .skip
def escrowlaw13_bases.n : FuncId := 19
noncomputable def escrowlaw13_bases.body : Code := (Try.f19.body).getD .skip
def escrowlaw13_Made.n : FuncId := 20
noncomputable def escrowlaw13_Made.body : Code := (Try.f20.body).getD .skip
def escrowlaw13_counts.n : FuncId := 21
noncomputable def escrowlaw13_counts.body : Code := (Try.f21.body).getD .skip
def escrowlaw13_turned.n : FuncId := 22
noncomputable def escrowlaw13_turned.body : Code := (Try.f22.body).getD .skip
def escrowlaw13_whole.n : FuncId := 23
noncomputable def escrowlaw13_whole.body : Code := (Try.f23.body).getD .skip
def escrowlaw13_LedgerViews.n : FuncId := 5
noncomputable def escrowlaw13_LedgerViews.body : Code := (Try.f5.body).getD .skip
def escrowlaw13_mod.n : FuncId := 26
noncomputable def escrowlaw13_mod.body : Code := (Try.f26.body).getD .skip
def escrowlaw13_book_spendable.n : FuncId := 49
noncomputable def escrowlaw13_book_spendable.body : Code := (Try.f49.body).getD .skip
def escrowlaw13_adds.n : FuncId := 50
noncomputable def escrowlaw13_adds.body : Code := (Try.f50.body).getD .skip
def escrowlaw13_book_removable.n : FuncId := 51
noncomputable def escrowlaw13_book_removable.body : Code := (Try.f51.body).getD .skip
def escrowlaw13_book_step.n : FuncId := 24
noncomputable def escrowlaw13_book_step.body : Code := (Try.f24.body).getD .skip
def escrowlaw13_book_taken.n : FuncId := 25
noncomputable def escrowlaw13_book_taken.body : Code := (Try.f25.body).getD .skip
def escrowlaw13_LedgerNever.n : FuncId := 6
noncomputable def escrowlaw13_LedgerNever.body : Code := (Try.f6.body).getD .skip
def escrowlaw13_LedgerMore.n : FuncId := 7
noncomputable def escrowlaw13_LedgerMore.body : Code := (Try.f7.body).getD .skip
end Go.Esc.M
