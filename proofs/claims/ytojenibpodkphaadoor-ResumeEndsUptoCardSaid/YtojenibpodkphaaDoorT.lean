/- Printed by gen.py (own work): the types of the program YtojenibpodkphaaDoor, their table. -/
import Derived.Test.YtojenibpodkphaaDoorProg
import Derived.Test.YtojenibpodkphaaDoorER
set_option linter.unusedSimpArgs false
set_option linter.unusedVariables false
namespace Go.Esc.M
open Go Go.Esc Go.Proofs

def t_int64 : TypeId := 2
def t_int : TypeId := 3
def t_bool : TypeId := 4
def t_uint8 : TypeId := 5
def t_string : TypeId := 9
def t_api_Hash : TypeId := 23
def t_ar2_api_Hash : TypeId := 24
def t_api_Config : TypeId := 26
def t_sl_api_Update : TypeId := 27
def t_api_Counts : TypeId := 29
def t_sl_api_Slot : TypeId := 30
def t_api_State : TypeId := 32
def t_api_Message : TypeId := 34
def t_sl_api_Message : TypeId := 38
def t_api_Errno : TypeId := 39
def t_ar2_api_Config : TypeId := 44
def t_escrowlaw15_Deal : TypeId := 47
def t_api_Update : TypeId := 53
def t_api_Slot : TypeId := 62
def t_ar48_int : TypeId := 67
def t_sl_api_Pending : TypeId := 72
def t_api_Ledger : TypeId := 74
def t_uint : TypeId := 81
def t_sl_uint8 : TypeId := 87
def t_ledger_wide : TypeId := 93
def t_map_int64_int : TypeId := 96
def t_uint16 : TypeId := 107
def t_api_Pending : TypeId := 109
def t_sl_bool : TypeId := 111
def t_uint64 : TypeId := 113
def t_sl_string : TypeId := 114
def t_uint32 : TypeId := 116
def t_ar8_uint32 : TypeId := 117
def t_ar64_uint32 : TypeId := 118
def t_sl_int64 : TypeId := 122
def t_map_bool_int : TypeId := 129
def t_map_bool_int64 : TypeId := 130
def t_cursor_Writer : TypeId := 132
def t_ar64_uint8 : TypeId := 139
def z_int64 : AVal := .int .i64 0
def ti_int64 : TI := ⟨.int .i64, 1, 8, z_int64⟩
def z_int : AVal := .int .i64 0
def ti_int : TI := ⟨.int .i64, 1, 8, z_int⟩
def z_bool : AVal := .bool false
def ti_bool : TI := ⟨.bool, 1, 1, z_bool⟩
def z_uint8 : AVal := .int .u8 0
def ti_uint8 : TI := ⟨.int .u8, 1, 1, z_uint8⟩
def z_string : AVal := .str []
def ti_string : TI := ⟨.string, 1, 16, z_string⟩
def z_api_Hash : AVal := .agg (List.replicate 32 (.int .u8 0))
def ti_api_Hash : TI := ⟨.array 32 t_uint8, 32, 32, z_api_Hash⟩
def z_ar2_api_Hash : AVal := .agg (List.replicate 2 (.agg (List.replicate 32 (.int .u8 0))))
def ti_ar2_api_Hash : TI := ⟨.array 2 t_api_Hash, 64, 64, z_ar2_api_Hash⟩
def z_api_Config : AVal := .agg [.int .i64 0, .int .i64 0, .int .i64 0, .agg (List.replicate 32 (.int .u8 0)), .agg (List.replicate 32 (.int .u8 0)), .agg (List.replicate 32 (.int .u8 0)), .agg (List.replicate 2 (.agg (List.replicate 32 (.int .u8 0)))), .int .i64 0]
def ti_api_Config : TI := ⟨.struct [(t_int, 0), (t_int64, 1), (t_int64, 2), (t_api_Hash, 3), (t_api_Hash, 35), (t_api_Hash, 67), (t_ar2_api_Hash, 99), (t_int, 163)], 164, 192, z_api_Config⟩
def z_sl_api_Update : AVal := .nilSlice
def ti_sl_api_Update : TI := ⟨.slice t_api_Update, 1, 24, z_sl_api_Update⟩
def z_api_Counts : AVal := .agg [.int .i64 0, .int .i64 0]
def ti_api_Counts : TI := ⟨.struct [(t_int, 0), (t_int, 1)], 2, 16, z_api_Counts⟩
def z_sl_api_Slot : AVal := .nilSlice
def ti_sl_api_Slot : TI := ⟨.slice t_api_Slot, 1, 24, z_sl_api_Slot⟩
def z_api_State : AVal := .agg [.int .i64 0, .int .i64 0, .int .i64 0, .int .i64 0, .nilSlice, .nilSlice, .int .i64 0, .int .i64 0, .int .i64 0, .agg [.int .i64 0, .int .i64 0], .agg [.int .i64 0, .int .i64 0], .agg [.int .i64 0, .int .i64 0], .bool false, .agg (List.replicate 2 (.agg (List.replicate 32 (.int .u8 0)))), .agg (List.replicate 32 (.int .u8 0)), .nilSlice, .int .i64 0, .int .i64 0]
def ti_api_State : TI := ⟨.struct [(t_int, 0), (t_int64, 1), (t_int64, 2), (t_int64, 3), (t_sl_api_Update, 4), (t_sl_api_Update, 5), (t_int64, 6), (t_int64, 7), (t_int64, 8), (t_api_Counts, 9), (t_api_Counts, 11), (t_api_Counts, 13), (t_bool, 15), (t_ar2_api_Hash, 16), (t_api_Hash, 80), (t_sl_api_Slot, 112), (t_int, 113), (t_int64, 114)], 115, 296, z_api_State⟩
def z_api_Message : AVal := .agg [.int .i64 0, .int .i64 0, .int .i64 0, .int .i64 0, .int .i64 0, .agg (List.replicate 32 (.int .u8 0)), .agg (List.replicate 32 (.int .u8 0)), .str []]
def ti_api_Message : TI := ⟨.struct [(t_int, 0), (t_int64, 1), (t_int64, 2), (t_int64, 3), (t_int64, 4), (t_api_Hash, 5), (t_api_Hash, 37), (t_string, 69)], 70, 120, z_api_Message⟩
def z_sl_api_Message : AVal := .nilSlice
def ti_sl_api_Message : TI := ⟨.slice t_api_Message, 1, 24, z_sl_api_Message⟩
def z_api_Errno : AVal := .int .i64 0
def ti_api_Errno : TI := ⟨.int .i64, 1, 8, z_api_Errno⟩
def z_ar2_api_Config : AVal := .agg (List.replicate 2 (.agg [.int .i64 0, .int .i64 0, .int .i64 0, .agg (List.replicate 32 (.int .u8 0)), .agg (List.replicate 32 (.int .u8 0)), .agg (List.replicate 32 (.int .u8 0)), .agg (List.replicate 2 (.agg (List.replicate 32 (.int .u8 0)))), .int .i64 0]))
def ti_ar2_api_Config : TI := ⟨.array 2 t_api_Config, 328, 384, z_ar2_api_Config⟩
def z_escrowlaw15_Deal : AVal := .agg [.int .i64 0, .int .i64 0, .agg (List.replicate 2 (.agg (List.replicate 32 (.int .u8 0)))), .agg (List.replicate 2 (.agg (List.replicate 32 (.int .u8 0))))]
def ti_escrowlaw15_Deal : TI := ⟨.struct [(t_int64, 0), (t_int64, 1), (t_ar2_api_Hash, 2), (t_ar2_api_Hash, 66)], 130, 144, z_escrowlaw15_Deal⟩
def z_api_Update : AVal := .agg [.int .i64 0, .int .i64 0, .int .i64 0, .agg (List.replicate 32 (.int .u8 0)), .str []]
def ti_api_Update : TI := ⟨.struct [(t_int, 0), (t_int64, 1), (t_int64, 2), (t_api_Hash, 3), (t_string, 35)], 36, 72, z_api_Update⟩
def z_api_Slot : AVal := .agg [.int .i64 0, .agg (List.replicate 32 (.int .u8 0)), .bool false]
def ti_api_Slot : TI := ⟨.struct [(t_int64, 0), (t_api_Hash, 1), (t_bool, 33)], 34, 48, z_api_Slot⟩
def z_ar48_int : AVal := .agg (List.replicate 48 (.int .i64 0))
def ti_ar48_int : TI := ⟨.array 48 t_int, 48, 384, z_ar48_int⟩
def z_sl_api_Pending : AVal := .nilSlice
def ti_sl_api_Pending : TI := ⟨.slice t_api_Pending, 1, 24, z_sl_api_Pending⟩
def z_api_Ledger : AVal := .agg [.int .i64 0, .int .i64 0, .nilSlice]
def ti_api_Ledger : TI := ⟨.struct [(t_int64, 0), (t_int64, 1), (t_sl_api_Pending, 2)], 3, 40, z_api_Ledger⟩
def z_uint : AVal := .int .u64 0
def ti_uint : TI := ⟨.int .u64, 1, 8, z_uint⟩
def z_sl_uint8 : AVal := .nilSlice
def ti_sl_uint8 : TI := ⟨.slice t_uint8, 1, 24, z_sl_uint8⟩
def z_ledger_wide : AVal := .agg [.int .i64 0, .int .i64 0]
def ti_ledger_wide : TI := ⟨.struct [(t_int64, 0), (t_int64, 1)], 2, 16, z_ledger_wide⟩
def z_map_int64_int : AVal := .nilMap
def ti_map_int64_int : TI := ⟨.map t_int64 t_int, 1, 8, z_map_int64_int⟩
def z_uint16 : AVal := .int .u16 0
def ti_uint16 : TI := ⟨.int .u16, 1, 2, z_uint16⟩
def z_api_Pending : AVal := .agg [.bool false, .int .i64 0, .int .i64 0, .agg (List.replicate 32 (.int .u8 0))]
def ti_api_Pending : TI := ⟨.struct [(t_bool, 0), (t_int64, 1), (t_int64, 2), (t_api_Hash, 3)], 35, 56, z_api_Pending⟩
def z_sl_bool : AVal := .nilSlice
def ti_sl_bool : TI := ⟨.slice t_bool, 1, 24, z_sl_bool⟩
def z_uint64 : AVal := .int .u64 0
def ti_uint64 : TI := ⟨.int .u64, 1, 8, z_uint64⟩
def z_sl_string : AVal := .nilSlice
def ti_sl_string : TI := ⟨.slice t_string, 1, 24, z_sl_string⟩
def z_uint32 : AVal := .int .u32 0
def ti_uint32 : TI := ⟨.int .u32, 1, 4, z_uint32⟩
def z_ar8_uint32 : AVal := .agg (List.replicate 8 (.int .u32 0))
def ti_ar8_uint32 : TI := ⟨.array 8 t_uint32, 8, 32, z_ar8_uint32⟩
def z_ar64_uint32 : AVal := .agg (List.replicate 64 (.int .u32 0))
def ti_ar64_uint32 : TI := ⟨.array 64 t_uint32, 64, 256, z_ar64_uint32⟩
def z_sl_int64 : AVal := .nilSlice
def ti_sl_int64 : TI := ⟨.slice t_int64, 1, 24, z_sl_int64⟩
def z_map_bool_int : AVal := .nilMap
def ti_map_bool_int : TI := ⟨.map t_bool t_int, 1, 8, z_map_bool_int⟩
def z_map_bool_int64 : AVal := .nilMap
def ti_map_bool_int64 : TI := ⟨.map t_bool t_int64, 1, 8, z_map_bool_int64⟩
def z_cursor_Writer : AVal := .agg [.nilSlice, .int .i64 0]
def ti_cursor_Writer : TI := ⟨.struct [(t_sl_uint8, 0), (t_api_Errno, 1)], 2, 32, z_cursor_Writer⟩
def z_ar64_uint8 : AVal := .agg (List.replicate 64 (.int .u8 0))
def ti_ar64_uint8 : TI := ⟨.array 64 t_uint8, 64, 64, z_ar64_uint8⟩
noncomputable abbrev P : Program := Tryd.prog
theorem tyOk_int64 : TyOk P 2 ti_int64 := TyOk.mk' (by kernel_rfl) (by kernel_rfl) (by kernel_rfl) (by kernel_rfl)
theorem tyOk_int : TyOk P 3 ti_int := TyOk.mk' (by kernel_rfl) (by kernel_rfl) (by kernel_rfl) (by kernel_rfl)
theorem tyOk_bool : TyOk P 4 ti_bool := TyOk.mk' (by kernel_rfl) (by kernel_rfl) (by kernel_rfl) (by kernel_rfl)
theorem tyOk_uint8 : TyOk P 5 ti_uint8 := TyOk.mk' (by kernel_rfl) (by kernel_rfl) (by kernel_rfl) (by kernel_rfl)
theorem tyOk_string : TyOk P 9 ti_string := TyOk.mk' (by kernel_rfl) (by kernel_rfl) (by kernel_rfl) (by kernel_rfl)
theorem tyOk_api_Hash : TyOk P 23 ti_api_Hash := TyOk.mk' (by kernel_rfl) (by kernel_rfl) (by kernel_rfl) (by kernel_rfl)
theorem tyOk_ar2_api_Hash : TyOk P 24 ti_ar2_api_Hash := TyOk.mk' (by kernel_rfl) (by kernel_rfl) (by kernel_rfl) (by kernel_rfl)
theorem tyOk_api_Config : TyOk P 26 ti_api_Config := TyOk.mk' (by kernel_rfl) (by kernel_rfl) (by kernel_rfl) (by kernel_rfl)
theorem tyOk_sl_api_Update : TyOk P 27 ti_sl_api_Update := TyOk.mk' (by kernel_rfl) (by kernel_rfl) (by kernel_rfl) (by kernel_rfl)
theorem tyOk_api_Counts : TyOk P 29 ti_api_Counts := TyOk.mk' (by kernel_rfl) (by kernel_rfl) (by kernel_rfl) (by kernel_rfl)
theorem tyOk_sl_api_Slot : TyOk P 30 ti_sl_api_Slot := TyOk.mk' (by kernel_rfl) (by kernel_rfl) (by kernel_rfl) (by kernel_rfl)
theorem tyOk_api_State : TyOk P 32 ti_api_State := TyOk.mk' (by kernel_rfl) (by kernel_rfl) (by kernel_rfl) (by kernel_rfl)
theorem tyOk_api_Message : TyOk P 34 ti_api_Message := TyOk.mk' (by kernel_rfl) (by kernel_rfl) (by kernel_rfl) (by kernel_rfl)
theorem tyOk_sl_api_Message : TyOk P 38 ti_sl_api_Message := TyOk.mk' (by kernel_rfl) (by kernel_rfl) (by kernel_rfl) (by kernel_rfl)
theorem tyOk_api_Errno : TyOk P 39 ti_api_Errno := TyOk.mk' (by kernel_rfl) (by kernel_rfl) (by kernel_rfl) (by kernel_rfl)
theorem tyOk_ar2_api_Config : TyOk P 44 ti_ar2_api_Config := TyOk.mk' (by kernel_rfl) (by kernel_rfl) (by kernel_rfl) (by kernel_rfl)
theorem tyOk_escrowlaw15_Deal : TyOk P 47 ti_escrowlaw15_Deal := TyOk.mk' (by kernel_rfl) (by kernel_rfl) (by kernel_rfl) (by kernel_rfl)
theorem tyOk_api_Update : TyOk P 53 ti_api_Update := TyOk.mk' (by kernel_rfl) (by kernel_rfl) (by kernel_rfl) (by kernel_rfl)
theorem tyOk_api_Slot : TyOk P 62 ti_api_Slot := TyOk.mk' (by kernel_rfl) (by kernel_rfl) (by kernel_rfl) (by kernel_rfl)
theorem tyOk_ar48_int : TyOk P 67 ti_ar48_int := TyOk.mk' (by kernel_rfl) (by kernel_rfl) (by kernel_rfl) (by kernel_rfl)
theorem tyOk_sl_api_Pending : TyOk P 72 ti_sl_api_Pending := TyOk.mk' (by kernel_rfl) (by kernel_rfl) (by kernel_rfl) (by kernel_rfl)
theorem tyOk_api_Ledger : TyOk P 74 ti_api_Ledger := TyOk.mk' (by kernel_rfl) (by kernel_rfl) (by kernel_rfl) (by kernel_rfl)
theorem tyOk_uint : TyOk P 81 ti_uint := TyOk.mk' (by kernel_rfl) (by kernel_rfl) (by kernel_rfl) (by kernel_rfl)
theorem tyOk_sl_uint8 : TyOk P 87 ti_sl_uint8 := TyOk.mk' (by kernel_rfl) (by kernel_rfl) (by kernel_rfl) (by kernel_rfl)
theorem tyOk_ledger_wide : TyOk P 93 ti_ledger_wide := TyOk.mk' (by kernel_rfl) (by kernel_rfl) (by kernel_rfl) (by kernel_rfl)
theorem tyOk_map_int64_int : TyOk P 96 ti_map_int64_int := TyOk.mk' (by kernel_rfl) (by kernel_rfl) (by kernel_rfl) (by kernel_rfl)
theorem tyOk_uint16 : TyOk P 107 ti_uint16 := TyOk.mk' (by kernel_rfl) (by kernel_rfl) (by kernel_rfl) (by kernel_rfl)
theorem tyOk_api_Pending : TyOk P 109 ti_api_Pending := TyOk.mk' (by kernel_rfl) (by kernel_rfl) (by kernel_rfl) (by kernel_rfl)
theorem tyOk_sl_bool : TyOk P 111 ti_sl_bool := TyOk.mk' (by kernel_rfl) (by kernel_rfl) (by kernel_rfl) (by kernel_rfl)
theorem tyOk_uint64 : TyOk P 113 ti_uint64 := TyOk.mk' (by kernel_rfl) (by kernel_rfl) (by kernel_rfl) (by kernel_rfl)
theorem tyOk_sl_string : TyOk P 114 ti_sl_string := TyOk.mk' (by kernel_rfl) (by kernel_rfl) (by kernel_rfl) (by kernel_rfl)
theorem tyOk_uint32 : TyOk P 116 ti_uint32 := TyOk.mk' (by kernel_rfl) (by kernel_rfl) (by kernel_rfl) (by kernel_rfl)
theorem tyOk_ar8_uint32 : TyOk P 117 ti_ar8_uint32 := TyOk.mk' (by kernel_rfl) (by kernel_rfl) (by kernel_rfl) (by kernel_rfl)
theorem tyOk_ar64_uint32 : TyOk P 118 ti_ar64_uint32 := TyOk.mk' (by kernel_rfl) (by kernel_rfl) (by kernel_rfl) (by kernel_rfl)
theorem tyOk_sl_int64 : TyOk P 122 ti_sl_int64 := TyOk.mk' (by kernel_rfl) (by kernel_rfl) (by kernel_rfl) (by kernel_rfl)
theorem tyOk_map_bool_int : TyOk P 129 ti_map_bool_int := TyOk.mk' (by kernel_rfl) (by kernel_rfl) (by kernel_rfl) (by kernel_rfl)
theorem tyOk_map_bool_int64 : TyOk P 130 ti_map_bool_int64 := TyOk.mk' (by kernel_rfl) (by kernel_rfl) (by kernel_rfl) (by kernel_rfl)
theorem tyOk_cursor_Writer : TyOk P 132 ti_cursor_Writer := TyOk.mk' (by kernel_rfl) (by kernel_rfl) (by kernel_rfl) (by kernel_rfl)
theorem tyOk_ar64_uint8 : TyOk P 139 ti_ar64_uint8 := TyOk.mk' (by kernel_rfl) (by kernel_rfl) (by kernel_rfl) (by kernel_rfl)
def T : Tbl := (Tbl.cons 2 ti_int64 (Tbl.cons 3 ti_int (Tbl.cons 4 ti_bool (Tbl.cons 5 ti_uint8 (Tbl.cons 9 ti_string (Tbl.cons 23 ti_api_Hash (Tbl.cons 24 ti_ar2_api_Hash (Tbl.cons 26 ti_api_Config (Tbl.cons 27 ti_sl_api_Update (Tbl.cons 29 ti_api_Counts (Tbl.cons 30 ti_sl_api_Slot (Tbl.cons 32 ti_api_State (Tbl.cons 34 ti_api_Message (Tbl.cons 38 ti_sl_api_Message (Tbl.cons 39 ti_api_Errno (Tbl.cons 44 ti_ar2_api_Config (Tbl.cons 47 ti_escrowlaw15_Deal (Tbl.cons 53 ti_api_Update (Tbl.cons 62 ti_api_Slot (Tbl.cons 67 ti_ar48_int (Tbl.cons 72 ti_sl_api_Pending (Tbl.cons 74 ti_api_Ledger (Tbl.cons 81 ti_uint (Tbl.cons 87 ti_sl_uint8 (Tbl.cons 93 ti_ledger_wide (Tbl.cons 96 ti_map_int64_int (Tbl.cons 107 ti_uint16 (Tbl.cons 109 ti_api_Pending (Tbl.cons 111 ti_sl_bool (Tbl.cons 113 ti_uint64 (Tbl.cons 114 ti_sl_string (Tbl.cons 116 ti_uint32 (Tbl.cons 117 ti_ar8_uint32 (Tbl.cons 118 ti_ar64_uint32 (Tbl.cons 122 ti_sl_int64 (Tbl.cons 129 ti_map_bool_int (Tbl.cons 130 ti_map_bool_int64 (Tbl.cons 132 ti_cursor_Writer (Tbl.cons 139 ti_ar64_uint8 Tbl.nil)))))))))))))))))))))))))))))))))))))))
theorem tblOk : TblOk P T := (TblOk.cons tyOk_int64 (TblOk.cons tyOk_int (TblOk.cons tyOk_bool (TblOk.cons tyOk_uint8 (TblOk.cons tyOk_string (TblOk.cons tyOk_api_Hash (TblOk.cons tyOk_ar2_api_Hash (TblOk.cons tyOk_api_Config (TblOk.cons tyOk_sl_api_Update (TblOk.cons tyOk_api_Counts (TblOk.cons tyOk_sl_api_Slot (TblOk.cons tyOk_api_State (TblOk.cons tyOk_api_Message (TblOk.cons tyOk_sl_api_Message (TblOk.cons tyOk_api_Errno (TblOk.cons tyOk_ar2_api_Config (TblOk.cons tyOk_escrowlaw15_Deal (TblOk.cons tyOk_api_Update (TblOk.cons tyOk_api_Slot (TblOk.cons tyOk_ar48_int (TblOk.cons tyOk_sl_api_Pending (TblOk.cons tyOk_api_Ledger (TblOk.cons tyOk_uint (TblOk.cons tyOk_sl_uint8 (TblOk.cons tyOk_ledger_wide (TblOk.cons tyOk_map_int64_int (TblOk.cons tyOk_uint16 (TblOk.cons tyOk_api_Pending (TblOk.cons tyOk_sl_bool (TblOk.cons tyOk_uint64 (TblOk.cons tyOk_sl_string (TblOk.cons tyOk_uint32 (TblOk.cons tyOk_ar8_uint32 (TblOk.cons tyOk_ar64_uint32 (TblOk.cons tyOk_sl_int64 (TblOk.cons tyOk_map_bool_int (TblOk.cons tyOk_map_bool_int64 (TblOk.cons tyOk_cursor_Writer (TblOk.cons tyOk_ar64_uint8 TblOk.nil)))))))))))))))))))))))))))))))))))))))
theorem T_int64 : T t_int64 = some ti_int64 := rfl
theorem T_int : T t_int = some ti_int := rfl
theorem T_bool : T t_bool = some ti_bool := rfl
theorem T_uint8 : T t_uint8 = some ti_uint8 := rfl
theorem T_string : T t_string = some ti_string := rfl
theorem T_api_Hash : T t_api_Hash = some ti_api_Hash := rfl
theorem T_ar2_api_Hash : T t_ar2_api_Hash = some ti_ar2_api_Hash := rfl
theorem T_api_Config : T t_api_Config = some ti_api_Config := rfl
theorem T_sl_api_Update : T t_sl_api_Update = some ti_sl_api_Update := rfl
theorem T_api_Counts : T t_api_Counts = some ti_api_Counts := rfl
theorem T_sl_api_Slot : T t_sl_api_Slot = some ti_sl_api_Slot := rfl
theorem T_api_State : T t_api_State = some ti_api_State := rfl
theorem T_api_Message : T t_api_Message = some ti_api_Message := rfl
theorem T_sl_api_Message : T t_sl_api_Message = some ti_sl_api_Message := rfl
theorem T_api_Errno : T t_api_Errno = some ti_api_Errno := rfl
theorem T_ar2_api_Config : T t_ar2_api_Config = some ti_ar2_api_Config := rfl
theorem T_escrowlaw15_Deal : T t_escrowlaw15_Deal = some ti_escrowlaw15_Deal := rfl
theorem T_api_Update : T t_api_Update = some ti_api_Update := rfl
theorem T_api_Slot : T t_api_Slot = some ti_api_Slot := rfl
theorem T_ar48_int : T t_ar48_int = some ti_ar48_int := rfl
theorem T_sl_api_Pending : T t_sl_api_Pending = some ti_sl_api_Pending := rfl
theorem T_api_Ledger : T t_api_Ledger = some ti_api_Ledger := rfl
theorem T_uint : T t_uint = some ti_uint := rfl
theorem T_sl_uint8 : T t_sl_uint8 = some ti_sl_uint8 := rfl
theorem T_ledger_wide : T t_ledger_wide = some ti_ledger_wide := rfl
theorem T_map_int64_int : T t_map_int64_int = some ti_map_int64_int := rfl
theorem T_uint16 : T t_uint16 = some ti_uint16 := rfl
theorem T_api_Pending : T t_api_Pending = some ti_api_Pending := rfl
theorem T_sl_bool : T t_sl_bool = some ti_sl_bool := rfl
theorem T_uint64 : T t_uint64 = some ti_uint64 := rfl
theorem T_sl_string : T t_sl_string = some ti_sl_string := rfl
theorem T_uint32 : T t_uint32 = some ti_uint32 := rfl
theorem T_ar8_uint32 : T t_ar8_uint32 = some ti_ar8_uint32 := rfl
theorem T_ar64_uint32 : T t_ar64_uint32 = some ti_ar64_uint32 := rfl
theorem T_sl_int64 : T t_sl_int64 = some ti_sl_int64 := rfl
theorem T_map_bool_int : T t_map_bool_int = some ti_map_bool_int := rfl
theorem T_map_bool_int64 : T t_map_bool_int64 = some ti_map_bool_int64 := rfl
theorem T_cursor_Writer : T t_cursor_Writer = some ti_cursor_Writer := rfl
theorem T_ar64_uint8 : T t_ar64_uint8 = some ti_ar64_uint8 := rfl
noncomputable def cx : Cx := ⟨P, T, fun _ _ => none⟩
theorem cxOk : CxOk cx := ⟨tblOk, fun _ _ _ h => by cases h⟩
abbrev g_math_bits_deBruijn64tab : AId := ⟨0, 0, 0⟩
abbrev g_internal_bytealg_MaxLen : AId := ⟨1, 0, 0⟩
theorem mixed : P.follows .mixedOrders = true := by kernel_rfl
theorem drawsOk_of {c : Code} {an : Ann} (h : drawB cx c an = true) (_ : (0 : Nat) = 0) : drawsOk cx c an := drawsOk_of_check cxOk mixed c an h
def seed_right.n : FuncId := 35
noncomputable def seed_right.body : Code := (Tryd.f35.body).getD .skip
def seed_place.n : FuncId := 36
noncomputable def seed_place.body : Code := (Tryd.f36.body).getD .skip
def bits_TrailingZeros64.n : FuncId := 55
noncomputable def bits_TrailingZeros64.body : Code := (Tryd.f55.body).getD .skip
def seed_Level.n : FuncId := 34
noncomputable def seed_Level.body : Code := (Tryd.f34.body).getD .skip
def hash_constants.n : FuncId := 57
noncomputable def hash_constants.body : Code := (Tryd.f57.body).getD .skip
def bits_RotateLeft32.n : FuncId := 76
noncomputable def bits_RotateLeft32.body : Code := (Tryd.f76.body).getD .skip
def hash_schedule.n : FuncId := 75
noncomputable def hash_schedule.body : Code := (Tryd.f75.body).getD .skip
def hash_turned.n : FuncId := 58
noncomputable def hash_turned.body : Code := (Tryd.f58.body).getD .skip
def hash_Sum.n : FuncId := 38
noncomputable def hash_Sum.body : Code := (Tryd.f38.body).getD .skip
def seed_Point.n : FuncId := 28
noncomputable def seed_Point.body : Code := (Tryd.f28.body).getD .skip
def seed_down.n : FuncId := 37
noncomputable def seed_down.body : Code := (Tryd.f37.body).getD .skip
def seed_Derive.n : FuncId := 25
noncomputable def seed_Derive.body : Code := (Tryd.f25.body).getD .skip
def shelf_Get.n : FuncId := 13
noncomputable def shelf_Get.body : Code := (Tryd.f13.body).getD .skip
def resume_Hello.n : FuncId := 6
noncomputable def resume_Hello.body : Code := (Tryd.f6.body).getD .skip
def seed_Secret.n : FuncId := 27
noncomputable def seed_Secret.body : Code := (Tryd.f27.body).getD .skip
def resume_proved.n : FuncId := 26
noncomputable def resume_proved.body : Code := (Tryd.f26.body).getD .skip
def resume_judged.n : FuncId := 14
noncomputable def resume_judged.body : Code := (Tryd.f14.body).getD .skip
def msg_Of.n : FuncId := 16
noncomputable def msg_Of.body : Code := (Tryd.f16.body).getD .skip
def resume_Answer_1.n : FuncId := 15
noncomputable def resume_Answer_1.body : Code := (Tryd.f15.body).getD .skip
def dance_Reveal.n : FuncId := 18
noncomputable def dance_Reveal.body : Code := (Tryd.f18.body).getD .skip
def resume_Answer_2.n : FuncId := 17
noncomputable def resume_Answer_2.body : Code := (Tryd.f17.body).getD .skip
def amount_Right.n : FuncId := 77
noncomputable def amount_Right.body : Code := (Tryd.f77.body).getD .skip
def amount_Plus.n : FuncId := 59
noncomputable def amount_Plus.body : Code := (Tryd.f59.body).getD .skip
def amount_Sum.n : FuncId := 39
noncomputable def amount_Sum.body : Code := (Tryd.f39.body).getD .skip
def slices_IndexFunc_escrow_api_Update_escrow_api_Update.n : FuncId := 60
noncomputable def slices_IndexFunc_escrow_api_Update_escrow_api_Update.body : Code := (Tryd.f60.body).getD .skip
def slices_ContainsFunc_escrow_api_Update_escrow_api_Update.n : FuncId := 40
noncomputable def slices_ContainsFunc_escrow_api_Update_escrow_api_Update.body : Code := (Tryd.f40.body).getD .skip
def update_Valid.n : FuncId := 61
noncomputable def update_Valid.body : Code := (Tryd.f61.body).getD .skip
def ledger_invalid.n : FuncId := 41
noncomputable def ledger_invalid.body : Code := (Tryd.f41.body).getD .skip
def ledger_wide_plus.n : FuncId := 44
noncomputable def ledger_wide_plus.body : Code := (Tryd.f44.body).getD .skip
def ledger_wide_minus.n : FuncId := 62
noncomputable def ledger_wide_minus.body : Code := (Tryd.f62.body).getD .skip
def slices_insertionSortCmpFunc_escrow_api_Pending.n : FuncId := 84
noncomputable def slices_insertionSortCmpFunc_escrow_api_Pending.body : Code := (Tryd.f84.body).getD .skip
def slices_swapRangeCmpFunc_escrow_api_Pending.n : FuncId := 91
noncomputable def slices_swapRangeCmpFunc_escrow_api_Pending.body : Code := (Tryd.f91.body).getD .skip
def slices_rotateCmpFunc_escrow_api_Pending.n : FuncId := 90
noncomputable def slices_rotateCmpFunc_escrow_api_Pending.body : Code := (Tryd.f90.body).getD .skip
def slices_symMergeCmpFunc_escrow_api_Pending.n : FuncId := 85
noncomputable def slices_symMergeCmpFunc_escrow_api_Pending.body : Code := (Tryd.f85.body).getD .skip
def slices_stableCmpFunc_escrow_api_Pending.n : FuncId := 78
noncomputable def slices_stableCmpFunc_escrow_api_Pending.body : Code := (Tryd.f78.body).getD .skip
def slices_SortStableFunc_escrow_api_Pending_escrow_api_Pending.n : FuncId := 63
noncomputable def slices_SortStableFunc_escrow_api_Pending_escrow_api_Pending.body : Code := (Tryd.f63.body).getD .skip
def cmp_isNaN_int64.n : FuncId := 79
noncomputable def cmp_isNaN_int64.body : Code := (Tryd.f79.body).getD .skip
def cmp_Compare_int64.n : FuncId := 65
noncomputable def cmp_Compare_int64.body : Code := (Tryd.f65.body).getD .skip
def ledger_part_1.n : FuncId := 64
noncomputable def ledger_part_1.body : Code := (Tryd.f64.body).getD .skip
def ledger_part.n : FuncId := 42
noncomputable def ledger_part.body : Code := (Tryd.f42.body).getD .skip
def ledger_removals.n : FuncId := 43
noncomputable def ledger_removals.body : Code := (Tryd.f43.body).getD .skip
def ledger_wide_value.n : FuncId := 45
noncomputable def ledger_wide_value.body : Code := (Tryd.f45.body).getD .skip
def ledger_Fold.n : FuncId := 29
noncomputable def ledger_Fold.body : Code := (Tryd.f29.body).getD .skip
def commit_sound.n : FuncId := 46
noncomputable def commit_sound.body : Code := (Tryd.f46.body).getD .skip
def cursor_New.n : FuncId := 47
noncomputable def cursor_New.body : Code := (Tryd.f47.body).getD .skip
def cursor_lay_uint8.n : FuncId := 66
noncomputable def cursor_lay_uint8.body : Code := (Tryd.f66.body).getD .skip
def cursor_Writer_U8.n : FuncId := 48
noncomputable def cursor_Writer_U8.body : Code := (Tryd.f48.body).getD .skip
def cursor_lay_uint64.n : FuncId := 67
noncomputable def cursor_lay_uint64.body : Code := (Tryd.f67.body).getD .skip
def cursor_Writer_I64.n : FuncId := 49
noncomputable def cursor_Writer_I64.body : Code := (Tryd.f49.body).getD .skip
def cursor_Writer_Raw.n : FuncId := 68
noncomputable def cursor_Writer_Raw.body : Code := (Tryd.f68.body).getD .skip
def cursor_Writer_Hash.n : FuncId := 50
noncomputable def cursor_Writer_Hash.body : Code := (Tryd.f50.body).getD .skip
def cursor_lay_uint16.n : FuncId := 69
noncomputable def cursor_lay_uint16.body : Code := (Tryd.f69.body).getD .skip
def cursor_Writer_U16.n : FuncId := 51
noncomputable def cursor_Writer_U16.body : Code := (Tryd.f51.body).getD .skip
def cursor_Writer_Out.n : FuncId := 52
noncomputable def cursor_Writer_Out.body : Code := (Tryd.f52.body).getD .skip
def commit_Text.n : FuncId := 30
noncomputable def commit_Text.body : Code := (Tryd.f30.body).getD .skip
def commit_Turn.n : FuncId := 31
noncomputable def commit_Turn.body : Code := (Tryd.f31.body).getD .skip
def hash_over.n : FuncId := 70
noncomputable def hash_over.body : Code := (Tryd.f70.body).getD .skip
def hash_Mac.n : FuncId := 53
noncomputable def hash_Mac.body : Code := (Tryd.f53.body).getD .skip
def seal_Sign.n : FuncId := 32
noncomputable def seal_Sign.body : Code := (Tryd.f32.body).getD .skip
def dance_Again.n : FuncId := 19
noncomputable def dance_Again.body : Code := (Tryd.f19.body).getD .skip
def resume_Answer.n : FuncId := 7
noncomputable def resume_Answer.body : Code := (Tryd.f7.body).getD .skip
def escrowref09_good.n : FuncId := 22
noncomputable def escrowref09_good.body : Code := (Tryd.f22.body).getD .skip
def escrowref02_padded.n : FuncId := 80
noncomputable def escrowref02_padded.body : Code := (Tryd.f80.body).getD .skip
def escrowref02_rounds.n : FuncId := 86
noncomputable def escrowref02_rounds.body : Code := (Tryd.f86.body).getD .skip
def escrowref02_rot.n : FuncId := 87
noncomputable def escrowref02_rot.body : Code := (Tryd.f87.body).getD .skip
def escrowref02_block.n : FuncId := 81
noncomputable def escrowref02_block.body : Code := (Tryd.f81.body).getD .skip
def escrowref02_One.n : FuncId := 71
noncomputable def escrowref02_One.body : Code := (Tryd.f71.body).getD .skip
def escrowref02_Sum.n : FuncId := 54
noncomputable def escrowref02_Sum.body : Code := (Tryd.f54.body).getD .skip
def escrowref09_Point.n : FuncId := 33
noncomputable def escrowref09_Point.body : Code := (Tryd.f33.body).getD .skip
def escrowref09_down.n : FuncId := 23
noncomputable def escrowref09_down.body : Code := (Tryd.f23.body).getD .skip
def escrowref09_Place.n : FuncId := 24
noncomputable def escrowref09_Place.body : Code := (Tryd.f24.body).getD .skip
def escrowref09_Secret.n : FuncId := 11
noncomputable def escrowref09_Secret.body : Code := (Tryd.f11.body).getD .skip
def escrowlaw15_Point.n : FuncId := 21
noncomputable def escrowlaw15_Point.body : Code := (Tryd.f21.body).getD .skip
def escrowlaw15_Configs.n : FuncId := 9
noncomputable def escrowlaw15_Configs.body : Code := (Tryd.f9.body).getD .skip
def escrowref15_Start.n : FuncId := 10
noncomputable def escrowref15_Start.body : Code := (Tryd.f10.body).getD .skip
def escrowlaw18_same.n : FuncId := 12
noncomputable def escrowlaw18_same.body : Code := (Tryd.f12.body).getD .skip
def escrowlaw18_first.n : FuncId := 4
noncomputable def escrowlaw18_first.body : Code := (Tryd.f4.body).getD .skip
def escrowlaw15_Copy.n : FuncId := 5
noncomputable def escrowlaw15_Copy.body : Code := (Tryd.f5.body).getD .skip
def escrowlaw15_SameUpdates.n : FuncId := 20
noncomputable def escrowlaw15_SameUpdates.body : Code := (Tryd.f20.body).getD .skip
def escrowlaw15_SameState.n : FuncId := 8
noncomputable def escrowlaw15_SameState.body : Code := (Tryd.f8.body).getD .skip
def escrowlaw18_ResumeEnds.n : FuncId := 3
noncomputable def escrowlaw18_ResumeEnds.body : Code := (Tryd.f3.body).getD .skip
def strings_Join.n : FuncId := 56
end Go.Esc.M
