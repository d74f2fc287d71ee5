/- Printed by gen.py (own work): the types of the program YtbckpbdamfhehaaGreatDoor, their table. -/
import Derived.Test.YtbckpbdamfhehaaGreatDoorProg
import Derived.Test.YtbckpbdamfhehaaGreatDoorER
set_option linter.unusedSimpArgs false
set_option linter.unusedVariables false
namespace Go.Esc.M
open Go Go.Esc Go.Proofs

def t_int64 : TypeId := 2
def t_int : TypeId := 3
def t_bool : TypeId := 4
def t_uint8 : TypeId := 5
def t_string : TypeId := 9
def t_api_Hash : TypeId := 23
def t_ar2_api_Hash : TypeId := 24
def t_api_Config : TypeId := 26
def t_sl_api_Update : TypeId := 27
def t_api_Counts : TypeId := 29
def t_sl_api_Slot : TypeId := 30
def t_api_State : TypeId := 32
def t_api_Update : TypeId := 34
def t_api_Message : TypeId := 36
def t_api_Record : TypeId := 42
def t_api_Errno : TypeId := 43
def t_ar2_api_Config : TypeId := 54
def t_escrowlaw15_Deal : TypeId := 57
def t_sl_api_Pending : TypeId := 66
def t_api_Ledger : TypeId := 68
def t_api_Slot : TypeId := 90
def t_map_int64_int : TypeId := 93
def t_ledger_wide : TypeId := 96
def t_sl_int64 : TypeId := 98
def t_uint16 : TypeId := 114
def t_api_Pending : TypeId := 116
def t_sl_bool : TypeId := 118
def t_sl_uint8 : TypeId := 121
def t_uint : TypeId := 129
def t_map_bool_int : TypeId := 135
def t_map_bool_int64 : TypeId := 136
def t_cursor_Writer : TypeId := 138
def t_uint64 : TypeId := 141
def t_sl_string : TypeId := 145
def t_uint32 : TypeId := 147
def t_ar8_uint32 : TypeId := 148
def t_ar64_uint32 : TypeId := 149
def t_ar48_int : TypeId := 155
def t_ar64_uint8 : TypeId := 158
def z_int64 : AVal := .int .i64 0
def ti_int64 : TI := ⟨.int .i64, 1, 8, z_int64⟩
def z_int : AVal := .int .i64 0
def ti_int : TI := ⟨.int .i64, 1, 8, z_int⟩
def z_bool : AVal := .bool false
def ti_bool : TI := ⟨.bool, 1, 1, z_bool⟩
def z_uint8 : AVal := .int .u8 0
def ti_uint8 : TI := ⟨.int .u8, 1, 1, z_uint8⟩
def z_string : AVal := .str []
def ti_string : TI := ⟨.string, 1, 16, z_string⟩
def z_api_Hash : AVal := .agg (List.replicate 32 (.int .u8 0))
def ti_api_Hash : TI := ⟨.array 32 t_uint8, 32, 32, z_api_Hash⟩
def z_ar2_api_Hash : AVal := .agg (List.replicate 2 (.agg (List.replicate 32 (.int .u8 0))))
def ti_ar2_api_Hash : TI := ⟨.array 2 t_api_Hash, 64, 64, z_ar2_api_Hash⟩
def z_api_Config : AVal := .agg [.int .i64 0, .int .i64 0, .int .i64 0, .agg (List.replicate 32 (.int .u8 0)), .agg (List.replicate 32 (.int .u8 0)), .agg (List.replicate 32 (.int .u8 0)), .agg (List.replicate 2 (.agg (List.replicate 32 (.int .u8 0)))), .int .i64 0]
def ti_api_Config : TI := ⟨.struct [(t_int, 0), (t_int64, 1), (t_int64, 2), (t_api_Hash, 3), (t_api_Hash, 35), (t_api_Hash, 67), (t_ar2_api_Hash, 99), (t_int, 163)], 164, 192, z_api_Config⟩
def z_sl_api_Update : AVal := .nilSlice
def ti_sl_api_Update : TI := ⟨.slice t_api_Update, 1, 24, z_sl_api_Update⟩
def z_api_Counts : AVal := .agg [.int .i64 0, .int .i64 0]
def ti_api_Counts : TI := ⟨.struct [(t_int, 0), (t_int, 1)], 2, 16, z_api_Counts⟩
def z_sl_api_Slot : AVal := .nilSlice
def ti_sl_api_Slot : TI := ⟨.slice t_api_Slot, 1, 24, z_sl_api_Slot⟩
def z_api_State : AVal := .agg [.int .i64 0, .int .i64 0, .int .i64 0, .int .i64 0, .nilSlice, .nilSlice, .int .i64 0, .int .i64 0, .int .i64 0, .agg [.int .i64 0, .int .i64 0], .agg [.int .i64 0, .int .i64 0], .agg [.int .i64 0, .int .i64 0], .bool false, .agg (List.replicate 2 (.agg (List.replicate 32 (.int .u8 0)))), .agg (List.replicate 32 (.int .u8 0)), .nilSlice, .int .i64 0, .int .i64 0]
def ti_api_State : TI := ⟨.struct [(t_int, 0), (t_int64, 1), (t_int64, 2), (t_int64, 3), (t_sl_api_Update, 4), (t_sl_api_Update, 5), (t_int64, 6), (t_int64, 7), (t_int64, 8), (t_api_Counts, 9), (t_api_Counts, 11), (t_api_Counts, 13), (t_bool, 15), (t_ar2_api_Hash, 16), (t_api_Hash, 80), (t_sl_api_Slot, 112), (t_int, 113), (t_int64, 114)], 115, 296, z_api_State⟩
def z_api_Update : AVal := .agg [.int .i64 0, .int .i64 0, .int .i64 0, .agg (List.replicate 32 (.int .u8 0)), .str []]
def ti_api_Update : TI := ⟨.struct [(t_int, 0), (t_int64, 1), (t_int64, 2), (t_api_Hash, 3), (t_string, 35)], 36, 72, z_api_Update⟩
def z_api_Message : AVal := .agg [.int .i64 0, .int .i64 0, .int .i64 0, .int .i64 0, .int .i64 0, .agg (List.replicate 32 (.int .u8 0)), .agg (List.replicate 32 (.int .u8 0)), .str []]
def ti_api_Message : TI := ⟨.struct [(t_int, 0), (t_int64, 1), (t_int64, 2), (t_int64, 3), (t_int64, 4), (t_api_Hash, 5), (t_api_Hash, 37), (t_string, 69)], 70, 120, z_api_Message⟩
def z_api_Record : AVal := .agg [.int .i64 0, .agg [.int .i64 0, .int .i64 0, .int .i64 0, .agg (List.replicate 32 (.int .u8 0)), .str []], .nilSlice, .int .i64 0, .agg [.int .i64 0, .int .i64 0], .agg (List.replicate 32 (.int .u8 0)), .agg (List.replicate 32 (.int .u8 0)), .agg (List.replicate 32 (.int .u8 0)), .int .i64 0]
def ti_api_Record : TI := ⟨.struct [(t_int, 0), (t_api_Update, 1), (t_sl_api_Update, 37), (t_int64, 38), (t_api_Counts, 39), (t_api_Hash, 41), (t_api_Hash, 73), (t_api_Hash, 105), (t_int, 137)], 138, 232, z_api_Record⟩
def z_api_Errno : AVal := .int .i64 0
def ti_api_Errno : TI := ⟨.int .i64, 1, 8, z_api_Errno⟩
def z_ar2_api_Config : AVal := .agg (List.replicate 2 (.agg [.int .i64 0, .int .i64 0, .int .i64 0, .agg (List.replicate 32 (.int .u8 0)), .agg (List.replicate 32 (.int .u8 0)), .agg (List.replicate 32 (.int .u8 0)), .agg (List.replicate 2 (.agg (List.replicate 32 (.int .u8 0)))), .int .i64 0]))
def ti_ar2_api_Config : TI := ⟨.array 2 t_api_Config, 328, 384, z_ar2_api_Config⟩
def z_escrowlaw15_Deal : AVal := .agg [.int .i64 0, .int .i64 0, .agg (List.replicate 2 (.agg (List.replicate 32 (.int .u8 0)))), .agg (List.replicate 2 (.agg (List.replicate 32 (.int .u8 0))))]
def ti_escrowlaw15_Deal : TI := ⟨.struct [(t_int64, 0), (t_int64, 1), (t_ar2_api_Hash, 2), (t_ar2_api_Hash, 66)], 130, 144, z_escrowlaw15_Deal⟩
def z_sl_api_Pending : AVal := .nilSlice
def ti_sl_api_Pending : TI := ⟨.slice t_api_Pending, 1, 24, z_sl_api_Pending⟩
def z_api_Ledger : AVal := .agg [.int .i64 0, .int .i64 0, .nilSlice]
def ti_api_Ledger : TI := ⟨.struct [(t_int64, 0), (t_int64, 1), (t_sl_api_Pending, 2)], 3, 40, z_api_Ledger⟩
def z_api_Slot : AVal := .agg [.int .i64 0, .agg (List.replicate 32 (.int .u8 0)), .bool false]
def ti_api_Slot : TI := ⟨.struct [(t_int64, 0), (t_api_Hash, 1), (t_bool, 33)], 34, 48, z_api_Slot⟩
def z_map_int64_int : AVal := .nilMap
def ti_map_int64_int : TI := ⟨.map t_int64 t_int, 1, 8, z_map_int64_int⟩
def z_ledger_wide : AVal := .agg [.int .i64 0, .int .i64 0]
def ti_ledger_wide : TI := ⟨.struct [(t_int64, 0), (t_int64, 1)], 2, 16, z_ledger_wide⟩
def z_sl_int64 : AVal := .nilSlice
def ti_sl_int64 : TI := ⟨.slice t_int64, 1, 24, z_sl_int64⟩
def z_uint16 : AVal := .int .u16 0
def ti_uint16 : TI := ⟨.int .u16, 1, 2, z_uint16⟩
def z_api_Pending : AVal := .agg [.bool false, .int .i64 0, .int .i64 0, .agg (List.replicate 32 (.int .u8 0))]
def ti_api_Pending : TI := ⟨.struct [(t_bool, 0), (t_int64, 1), (t_int64, 2), (t_api_Hash, 3)], 35, 56, z_api_Pending⟩
def z_sl_bool : AVal := .nilSlice
def ti_sl_bool : TI := ⟨.slice t_bool, 1, 24, z_sl_bool⟩
def z_sl_uint8 : AVal := .nilSlice
def ti_sl_uint8 : TI := ⟨.slice t_uint8, 1, 24, z_sl_uint8⟩
def z_uint : AVal := .int .u64 0
def ti_uint : TI := ⟨.int .u64, 1, 8, z_uint⟩
def z_map_bool_int : AVal := .nilMap
def ti_map_bool_int : TI := ⟨.map t_bool t_int, 1, 8, z_map_bool_int⟩
def z_map_bool_int64 : AVal := .nilMap
def ti_map_bool_int64 : TI := ⟨.map t_bool t_int64, 1, 8, z_map_bool_int64⟩
def z_cursor_Writer : AVal := .agg [.nilSlice, .int .i64 0]
def ti_cursor_Writer : TI := ⟨.struct [(t_sl_uint8, 0), (t_api_Errno, 1)], 2, 32, z_cursor_Writer⟩
def z_uint64 : AVal := .int .u64 0
def ti_uint64 : TI := ⟨.int .u64, 1, 8, z_uint64⟩
def z_sl_string : AVal := .nilSlice
def ti_sl_string : TI := ⟨.slice t_string, 1, 24, z_sl_string⟩
def z_uint32 : AVal := .int .u32 0
def ti_uint32 : TI := ⟨.int .u32, 1, 4, z_uint32⟩
def z_ar8_uint32 : AVal := .agg (List.replicate 8 (.int .u32 0))
def ti_ar8_uint32 : TI := ⟨.array 8 t_uint32, 8, 32, z_ar8_uint32⟩
def z_ar64_uint32 : AVal := .agg (List.replicate 64 (.int .u32 0))
def ti_ar64_uint32 : TI := ⟨.array 64 t_uint32, 64, 256, z_ar64_uint32⟩
def z_ar48_int : AVal := .agg (List.replicate 48 (.int .i64 0))
def ti_ar48_int : TI := ⟨.array 48 t_int, 48, 384, z_ar48_int⟩
def z_ar64_uint8 : AVal := .agg (List.replicate 64 (.int .u8 0))
def ti_ar64_uint8 : TI := ⟨.array 64 t_uint8, 64, 64, z_ar64_uint8⟩
noncomputable abbrev P : Program := Tryz.prog
theorem tyOk_int64 : TyOk P 2 ti_int64 := TyOk.mk' (by kernel_rfl) (by kernel_rfl) (by kernel_rfl) (by kernel_rfl)
theorem tyOk_int : TyOk P 3 ti_int := TyOk.mk' (by kernel_rfl) (by kernel_rfl) (by kernel_rfl) (by kernel_rfl)
theorem tyOk_bool : TyOk P 4 ti_bool := TyOk.mk' (by kernel_rfl) (by kernel_rfl) (by kernel_rfl) (by kernel_rfl)
theorem tyOk_uint8 : TyOk P 5 ti_uint8 := TyOk.mk' (by kernel_rfl) (by kernel_rfl) (by kernel_rfl) (by kernel_rfl)
theorem tyOk_string : TyOk P 9 ti_string := TyOk.mk' (by kernel_rfl) (by kernel_rfl) (by kernel_rfl) (by kernel_rfl)
theorem tyOk_api_Hash : TyOk P 23 ti_api_Hash := TyOk.mk' (by kernel_rfl) (by kernel_rfl) (by kernel_rfl) (by kernel_rfl)
theorem tyOk_ar2_api_Hash : TyOk P 24 ti_ar2_api_Hash := TyOk.mk' (by kernel_rfl) (by kernel_rfl) (by kernel_rfl) (by kernel_rfl)
theorem tyOk_api_Config : TyOk P 26 ti_api_Config := TyOk.mk' (by kernel_rfl) (by kernel_rfl) (by kernel_rfl) (by kernel_rfl)
theorem tyOk_sl_api_Update : TyOk P 27 ti_sl_api_Update := TyOk.mk' (by kernel_rfl) (by kernel_rfl) (by kernel_rfl) (by kernel_rfl)
theorem tyOk_api_Counts : TyOk P 29 ti_api_Counts := TyOk.mk' (by kernel_rfl) (by kernel_rfl) (by kernel_rfl) (by kernel_rfl)
theorem tyOk_sl_api_Slot : TyOk P 30 ti_sl_api_Slot := TyOk.mk' (by kernel_rfl) (by kernel_rfl) (by kernel_rfl) (by kernel_rfl)
theorem tyOk_api_State : TyOk P 32 ti_api_State := TyOk.mk' (by kernel_rfl) (by kernel_rfl) (by kernel_rfl) (by kernel_rfl)
theorem tyOk_api_Update : TyOk P 34 ti_api_Update := TyOk.mk' (by kernel_rfl) (by kernel_rfl) (by kernel_rfl) (by kernel_rfl)
theorem tyOk_api_Message : TyOk P 36 ti_api_Message := TyOk.mk' (by kernel_rfl) (by kernel_rfl) (by kernel_rfl) (by kernel_rfl)
theorem tyOk_api_Record : TyOk P 42 ti_api_Record := TyOk.mk' (by kernel_rfl) (by kernel_rfl) (by kernel_rfl) (by kernel_rfl)
theorem tyOk_api_Errno : TyOk P 43 ti_api_Errno := TyOk.mk' (by kernel_rfl) (by kernel_rfl) (by kernel_rfl) (by kernel_rfl)
theorem tyOk_ar2_api_Config : TyOk P 54 ti_ar2_api_Config := TyOk.mk' (by kernel_rfl) (by kernel_rfl) (by kernel_rfl) (by kernel_rfl)
theorem tyOk_escrowlaw15_Deal : TyOk P 57 ti_escrowlaw15_Deal := TyOk.mk' (by kernel_rfl) (by kernel_rfl) (by kernel_rfl) (by kernel_rfl)
theorem tyOk_sl_api_Pending : TyOk P 66 ti_sl_api_Pending := TyOk.mk' (by kernel_rfl) (by kernel_rfl) (by kernel_rfl) (by kernel_rfl)
theorem tyOk_api_Ledger : TyOk P 68 ti_api_Ledger := TyOk.mk' (by kernel_rfl) (by kernel_rfl) (by kernel_rfl) (by kernel_rfl)
theorem tyOk_api_Slot : TyOk P 90 ti_api_Slot := TyOk.mk' (by kernel_rfl) (by kernel_rfl) (by kernel_rfl) (by kernel_rfl)
theorem tyOk_map_int64_int : TyOk P 93 ti_map_int64_int := TyOk.mk' (by kernel_rfl) (by kernel_rfl) (by kernel_rfl) (by kernel_rfl)
theorem tyOk_ledger_wide : TyOk P 96 ti_ledger_wide := TyOk.mk' (by kernel_rfl) (by kernel_rfl) (by kernel_rfl) (by kernel_rfl)
theorem tyOk_sl_int64 : TyOk P 98 ti_sl_int64 := TyOk.mk' (by kernel_rfl) (by kernel_rfl) (by kernel_rfl) (by kernel_rfl)
theorem tyOk_uint16 : TyOk P 114 ti_uint16 := TyOk.mk' (by kernel_rfl) (by kernel_rfl) (by kernel_rfl) (by kernel_rfl)
theorem tyOk_api_Pending : TyOk P 116 ti_api_Pending := TyOk.mk' (by kernel_rfl) (by kernel_rfl) (by kernel_rfl) (by kernel_rfl)
theorem tyOk_sl_bool : TyOk P 118 ti_sl_bool := TyOk.mk' (by kernel_rfl) (by kernel_rfl) (by kernel_rfl) (by kernel_rfl)
theorem tyOk_sl_uint8 : TyOk P 121 ti_sl_uint8 := TyOk.mk' (by kernel_rfl) (by kernel_rfl) (by kernel_rfl) (by kernel_rfl)
theorem tyOk_uint : TyOk P 129 ti_uint := TyOk.mk' (by kernel_rfl) (by kernel_rfl) (by kernel_rfl) (by kernel_rfl)
theorem tyOk_map_bool_int : TyOk P 135 ti_map_bool_int := TyOk.mk' (by kernel_rfl) (by kernel_rfl) (by kernel_rfl) (by kernel_rfl)
theorem tyOk_map_bool_int64 : TyOk P 136 ti_map_bool_int64 := TyOk.mk' (by kernel_rfl) (by kernel_rfl) (by kernel_rfl) (by kernel_rfl)
theorem tyOk_cursor_Writer : TyOk P 138 ti_cursor_Writer := TyOk.mk' (by kernel_rfl) (by kernel_rfl) (by kernel_rfl) (by kernel_rfl)
theorem tyOk_uint64 : TyOk P 141 ti_uint64 := TyOk.mk' (by kernel_rfl) (by kernel_rfl) (by kernel_rfl) (by kernel_rfl)
theorem tyOk_sl_string : TyOk P 145 ti_sl_string := TyOk.mk' (by kernel_rfl) (by kernel_rfl) (by kernel_rfl) (by kernel_rfl)
theorem tyOk_uint32 : TyOk P 147 ti_uint32 := TyOk.mk' (by kernel_rfl) (by kernel_rfl) (by kernel_rfl) (by kernel_rfl)
theorem tyOk_ar8_uint32 : TyOk P 148 ti_ar8_uint32 := TyOk.mk' (by kernel_rfl) (by kernel_rfl) (by kernel_rfl) (by kernel_rfl)
theorem tyOk_ar64_uint32 : TyOk P 149 ti_ar64_uint32 := TyOk.mk' (by kernel_rfl) (by kernel_rfl) (by kernel_rfl) (by kernel_rfl)
theorem tyOk_ar48_int : TyOk P 155 ti_ar48_int := TyOk.mk' (by kernel_rfl) (by kernel_rfl) (by kernel_rfl) (by kernel_rfl)
theorem tyOk_ar64_uint8 : TyOk P 158 ti_ar64_uint8 := TyOk.mk' (by kernel_rfl) (by kernel_rfl) (by kernel_rfl) (by kernel_rfl)
def T : Tbl := (Tbl.cons 2 ti_int64 (Tbl.cons 3 ti_int (Tbl.cons 4 ti_bool (Tbl.cons 5 ti_uint8 (Tbl.cons 9 ti_string (Tbl.cons 23 ti_api_Hash (Tbl.cons 24 ti_ar2_api_Hash (Tbl.cons 26 ti_api_Config (Tbl.cons 27 ti_sl_api_Update (Tbl.cons 29 ti_api_Counts (Tbl.cons 30 ti_sl_api_Slot (Tbl.cons 32 ti_api_State (Tbl.cons 34 ti_api_Update (Tbl.cons 36 ti_api_Message (Tbl.cons 42 ti_api_Record (Tbl.cons 43 ti_api_Errno (Tbl.cons 54 ti_ar2_api_Config (Tbl.cons 57 ti_escrowlaw15_Deal (Tbl.cons 66 ti_sl_api_Pending (Tbl.cons 68 ti_api_Ledger (Tbl.cons 90 ti_api_Slot (Tbl.cons 93 ti_map_int64_int (Tbl.cons 96 ti_ledger_wide (Tbl.cons 98 ti_sl_int64 (Tbl.cons 114 ti_uint16 (Tbl.cons 116 ti_api_Pending (Tbl.cons 118 ti_sl_bool (Tbl.cons 121 ti_sl_uint8 (Tbl.cons 129 ti_uint (Tbl.cons 135 ti_map_bool_int (Tbl.cons 136 ti_map_bool_int64 (Tbl.cons 138 ti_cursor_Writer (Tbl.cons 141 ti_uint64 (Tbl.cons 145 ti_sl_string (Tbl.cons 147 ti_uint32 (Tbl.cons 148 ti_ar8_uint32 (Tbl.cons 149 ti_ar64_uint32 (Tbl.cons 155 ti_ar48_int (Tbl.cons 158 ti_ar64_uint8 Tbl.nil)))))))))))))))))))))))))))))))))))))))
theorem tblOk : TblOk P T := (TblOk.cons tyOk_int64 (TblOk.cons tyOk_int (TblOk.cons tyOk_bool (TblOk.cons tyOk_uint8 (TblOk.cons tyOk_string (TblOk.cons tyOk_api_Hash (TblOk.cons tyOk_ar2_api_Hash (TblOk.cons tyOk_api_Config (TblOk.cons tyOk_sl_api_Update (TblOk.cons tyOk_api_Counts (TblOk.cons tyOk_sl_api_Slot (TblOk.cons tyOk_api_State (TblOk.cons tyOk_api_Update (TblOk.cons tyOk_api_Message (TblOk.cons tyOk_api_Record (TblOk.cons tyOk_api_Errno (TblOk.cons tyOk_ar2_api_Config (TblOk.cons tyOk_escrowlaw15_Deal (TblOk.cons tyOk_sl_api_Pending (TblOk.cons tyOk_api_Ledger (TblOk.cons tyOk_api_Slot (TblOk.cons tyOk_map_int64_int (TblOk.cons tyOk_ledger_wide (TblOk.cons tyOk_sl_int64 (TblOk.cons tyOk_uint16 (TblOk.cons tyOk_api_Pending (TblOk.cons tyOk_sl_bool (TblOk.cons tyOk_sl_uint8 (TblOk.cons tyOk_uint (TblOk.cons tyOk_map_bool_int (TblOk.cons tyOk_map_bool_int64 (TblOk.cons tyOk_cursor_Writer (TblOk.cons tyOk_uint64 (TblOk.cons tyOk_sl_string (TblOk.cons tyOk_uint32 (TblOk.cons tyOk_ar8_uint32 (TblOk.cons tyOk_ar64_uint32 (TblOk.cons tyOk_ar48_int (TblOk.cons tyOk_ar64_uint8 TblOk.nil)))))))))))))))))))))))))))))))))))))))
theorem T_int64 : T t_int64 = some ti_int64 := rfl
theorem T_int : T t_int = some ti_int := rfl
theorem T_bool : T t_bool = some ti_bool := rfl
theorem T_uint8 : T t_uint8 = some ti_uint8 := rfl
theorem T_string : T t_string = some ti_string := rfl
theorem T_api_Hash : T t_api_Hash = some ti_api_Hash := rfl
theorem T_ar2_api_Hash : T t_ar2_api_Hash = some ti_ar2_api_Hash := rfl
theorem T_api_Config : T t_api_Config = some ti_api_Config := rfl
theorem T_sl_api_Update : T t_sl_api_Update = some ti_sl_api_Update := rfl
theorem T_api_Counts : T t_api_Counts = some ti_api_Counts := rfl
theorem T_sl_api_Slot : T t_sl_api_Slot = some ti_sl_api_Slot := rfl
theorem T_api_State : T t_api_State = some ti_api_State := rfl
theorem T_api_Update : T t_api_Update = some ti_api_Update := rfl
theorem T_api_Message : T t_api_Message = some ti_api_Message := rfl
theorem T_api_Record : T t_api_Record = some ti_api_Record := rfl
theorem T_api_Errno : T t_api_Errno = some ti_api_Errno := rfl
theorem T_ar2_api_Config : T t_ar2_api_Config = some ti_ar2_api_Config := rfl
theorem T_escrowlaw15_Deal : T t_escrowlaw15_Deal = some ti_escrowlaw15_Deal := rfl
theorem T_sl_api_Pending : T t_sl_api_Pending = some ti_sl_api_Pending := rfl
theorem T_api_Ledger : T t_api_Ledger = some ti_api_Ledger := rfl
theorem T_api_Slot : T t_api_Slot = some ti_api_Slot := rfl
theorem T_map_int64_int : T t_map_int64_int = some ti_map_int64_int := rfl
theorem T_ledger_wide : T t_ledger_wide = some ti_ledger_wide := rfl
theorem T_sl_int64 : T t_sl_int64 = some ti_sl_int64 := rfl
theorem T_uint16 : T t_uint16 = some ti_uint16 := rfl
theorem T_api_Pending : T t_api_Pending = some ti_api_Pending := rfl
theorem T_sl_bool : T t_sl_bool = some ti_sl_bool := rfl
theorem T_sl_uint8 : T t_sl_uint8 = some ti_sl_uint8 := rfl
theorem T_uint : T t_uint = some ti_uint := rfl
theorem T_map_bool_int : T t_map_bool_int = some ti_map_bool_int := rfl
theorem T_map_bool_int64 : T t_map_bool_int64 = some ti_map_bool_int64 := rfl
theorem T_cursor_Writer : T t_cursor_Writer = some ti_cursor_Writer := rfl
theorem T_uint64 : T t_uint64 = some ti_uint64 := rfl
theorem T_sl_string : T t_sl_string = some ti_sl_string := rfl
theorem T_uint32 : T t_uint32 = some ti_uint32 := rfl
theorem T_ar8_uint32 : T t_ar8_uint32 = some ti_ar8_uint32 := rfl
theorem T_ar64_uint32 : T t_ar64_uint32 = some ti_ar64_uint32 := rfl
theorem T_ar48_int : T t_ar48_int = some ti_ar48_int := rfl
theorem T_ar64_uint8 : T t_ar64_uint8 = some ti_ar64_uint8 := rfl
noncomputable def cx : Cx := ⟨P, T, fun _ _ => none⟩
theorem cxOk : CxOk cx := ⟨tblOk, fun _ _ _ h => by cases h⟩
abbrev g_math_bits_deBruijn64tab : AId := ⟨0, 0, 0⟩
abbrev g_internal_bytealg_MaxLen : AId := ⟨1, 0, 0⟩
theorem mixed : P.follows .mixedOrders = true := by kernel_rfl
theorem drawsOk_of {c : Code} {an : Ann} (h : drawB cx c an = true) (_ : (0 : Nat) = 0) : drawsOk cx c an := drawsOk_of_check cxOk mixed c an h
def dance_Fixed.n : FuncId := 5
noncomputable def dance_Fixed.body : Code := (Tryz.f5.body).getD .skip
def update_Valid.n : FuncId := 67
noncomputable def update_Valid.body : Code := (Tryz.f67.body).getD .skip
def ledger_removals.n : FuncId := 45
noncomputable def ledger_removals.body : Code := (Tryz.f45.body).getD .skip
def ledger_first.n : FuncId := 46
noncomputable def ledger_first.body : Code := (Tryz.f46.body).getD .skip
def ledger_wide_plus.n : FuncId := 47
noncomputable def ledger_wide_plus.body : Code := (Tryz.f47.body).getD .skip
def ledger_adds.n : FuncId := 48
noncomputable def ledger_adds.body : Code := (Tryz.f48.body).getD .skip
def ledger_Spendable_1.n : FuncId := 49
noncomputable def ledger_Spendable_1.body : Code := (Tryz.f49.body).getD .skip
def ledger_wide_minus.n : FuncId := 50
noncomputable def ledger_wide_minus.body : Code := (Tryz.f50.body).getD .skip
def ledger_Spendable_2.n : FuncId := 51
noncomputable def ledger_Spendable_2.body : Code := (Tryz.f51.body).getD .skip
def ledger_wide_value.n : FuncId := 52
noncomputable def ledger_wide_value.body : Code := (Tryz.f52.body).getD .skip
def ledger_Spendable.n : FuncId := 21
noncomputable def ledger_Spendable.body : Code := (Tryz.f21.body).getD .skip
def dance_Spendable.n : FuncId := 7
noncomputable def dance_Spendable.body : Code := (Tryz.f7.body).getD .skip
def dance_turned.n : FuncId := 22
noncomputable def dance_turned.body : Code := (Tryz.f22.body).getD .skip
def dance_PeerSpendable.n : FuncId := 8
noncomputable def dance_PeerSpendable.body : Code := (Tryz.f8.body).getD .skip
def dance_dead.n : FuncId := 23
noncomputable def dance_dead.body : Code := (Tryz.f23.body).getD .skip
def dance_full.n : FuncId := 24
noncomputable def dance_full.body : Code := (Tryz.f24.body).getD .skip
def ledger_Open_1.n : FuncId := 53
noncomputable def ledger_Open_1.body : Code := (Tryz.f53.body).getD .skip
def ledger_Open.n : FuncId := 25
noncomputable def ledger_Open.body : Code := (Tryz.f25.body).getD .skip
def dance_mine.n : FuncId := 26
noncomputable def dance_mine.body : Code := (Tryz.f26.body).getD .skip
def dance_Offer.n : FuncId := 9
noncomputable def dance_Offer.body : Code := (Tryz.f9.body).getD .skip
def dance_Sign.n : FuncId := 12
noncomputable def dance_Sign.body : Code := (Tryz.f12.body).getD .skip
def dance_first.n : FuncId := 34
noncomputable def dance_first.body : Code := (Tryz.f34.body).getD .skip
def amount_Right.n : FuncId := 44
noncomputable def amount_Right.body : Code := (Tryz.f44.body).getD .skip
def amount_Plus.n : FuncId := 78
noncomputable def amount_Plus.body : Code := (Tryz.f78.body).getD .skip
def amount_Sum.n : FuncId := 55
noncomputable def amount_Sum.body : Code := (Tryz.f55.body).getD .skip
def slices_IndexFunc_escrow_api_Update_escrow_api_Update.n : FuncId := 79
noncomputable def slices_IndexFunc_escrow_api_Update_escrow_api_Update.body : Code := (Tryz.f79.body).getD .skip
def slices_ContainsFunc_escrow_api_Update_escrow_api_Update.n : FuncId := 56
noncomputable def slices_ContainsFunc_escrow_api_Update_escrow_api_Update.body : Code := (Tryz.f56.body).getD .skip
def ledger_invalid.n : FuncId := 57
noncomputable def ledger_invalid.body : Code := (Tryz.f57.body).getD .skip
def slices_insertionSortCmpFunc_escrow_api_Pending.n : FuncId := 104
noncomputable def slices_insertionSortCmpFunc_escrow_api_Pending.body : Code := (Tryz.f104.body).getD .skip
def slices_swapRangeCmpFunc_escrow_api_Pending.n : FuncId := 115
noncomputable def slices_swapRangeCmpFunc_escrow_api_Pending.body : Code := (Tryz.f115.body).getD .skip
def slices_rotateCmpFunc_escrow_api_Pending.n : FuncId := 110
noncomputable def slices_rotateCmpFunc_escrow_api_Pending.body : Code := (Tryz.f110.body).getD .skip
def slices_symMergeCmpFunc_escrow_api_Pending.n : FuncId := 105
noncomputable def slices_symMergeCmpFunc_escrow_api_Pending.body : Code := (Tryz.f105.body).getD .skip
def slices_stableCmpFunc_escrow_api_Pending.n : FuncId := 96
noncomputable def slices_stableCmpFunc_escrow_api_Pending.body : Code := (Tryz.f96.body).getD .skip
def slices_SortStableFunc_escrow_api_Pending_escrow_api_Pending.n : FuncId := 80
noncomputable def slices_SortStableFunc_escrow_api_Pending_escrow_api_Pending.body : Code := (Tryz.f80.body).getD .skip
def cmp_isNaN_int64.n : FuncId := 97
noncomputable def cmp_isNaN_int64.body : Code := (Tryz.f97.body).getD .skip
def cmp_Compare_int64.n : FuncId := 82
noncomputable def cmp_Compare_int64.body : Code := (Tryz.f82.body).getD .skip
def ledger_part_1.n : FuncId := 81
noncomputable def ledger_part_1.body : Code := (Tryz.f81.body).getD .skip
def ledger_part.n : FuncId := 58
noncomputable def ledger_part.body : Code := (Tryz.f58.body).getD .skip
def ledger_Fold.n : FuncId := 28
noncomputable def ledger_Fold.body : Code := (Tryz.f28.body).getD .skip
def commit_sound.n : FuncId := 59
noncomputable def commit_sound.body : Code := (Tryz.f59.body).getD .skip
def cursor_New.n : FuncId := 60
noncomputable def cursor_New.body : Code := (Tryz.f60.body).getD .skip
def cursor_lay_uint8.n : FuncId := 83
noncomputable def cursor_lay_uint8.body : Code := (Tryz.f83.body).getD .skip
def cursor_Writer_U8.n : FuncId := 61
noncomputable def cursor_Writer_U8.body : Code := (Tryz.f61.body).getD .skip
def cursor_lay_uint64.n : FuncId := 84
noncomputable def cursor_lay_uint64.body : Code := (Tryz.f84.body).getD .skip
def cursor_Writer_I64.n : FuncId := 62
noncomputable def cursor_Writer_I64.body : Code := (Tryz.f62.body).getD .skip
def cursor_Writer_Raw.n : FuncId := 85
noncomputable def cursor_Writer_Raw.body : Code := (Tryz.f85.body).getD .skip
def cursor_Writer_Hash.n : FuncId := 63
noncomputable def cursor_Writer_Hash.body : Code := (Tryz.f63.body).getD .skip
def cursor_lay_uint16.n : FuncId := 86
noncomputable def cursor_lay_uint16.body : Code := (Tryz.f86.body).getD .skip
def cursor_Writer_U16.n : FuncId := 64
noncomputable def cursor_Writer_U16.body : Code := (Tryz.f64.body).getD .skip
def cursor_Writer_Out.n : FuncId := 65
noncomputable def cursor_Writer_Out.body : Code := (Tryz.f65.body).getD .skip
def commit_Text.n : FuncId := 29
noncomputable def commit_Text.body : Code := (Tryz.f29.body).getD .skip
def seed_right.n : FuncId := 71
noncomputable def seed_right.body : Code := (Tryz.f71.body).getD .skip
def hash_constants.n : FuncId := 89
noncomputable def hash_constants.body : Code := (Tryz.f89.body).getD .skip
def bits_RotateLeft32.n : FuncId := 102
noncomputable def bits_RotateLeft32.body : Code := (Tryz.f102.body).getD .skip
def hash_schedule.n : FuncId := 101
noncomputable def hash_schedule.body : Code := (Tryz.f101.body).getD .skip
def hash_turned.n : FuncId := 90
noncomputable def hash_turned.body : Code := (Tryz.f90.body).getD .skip
def hash_Sum.n : FuncId := 69
noncomputable def hash_Sum.body : Code := (Tryz.f69.body).getD .skip
def seed_Point.n : FuncId := 40
noncomputable def seed_Point.body : Code := (Tryz.f40.body).getD .skip
def seed_down.n : FuncId := 72
noncomputable def seed_down.body : Code := (Tryz.f72.body).getD .skip
def seed_place.n : FuncId := 73
noncomputable def seed_place.body : Code := (Tryz.f73.body).getD .skip
def seed_Secret.n : FuncId := 39
noncomputable def seed_Secret.body : Code := (Tryz.f39.body).getD .skip
def dance_own.n : FuncId := 36
noncomputable def dance_own.body : Code := (Tryz.f36.body).getD .skip
def hash_over.n : FuncId := 87
noncomputable def hash_over.body : Code := (Tryz.f87.body).getD .skip
def hash_Mac.n : FuncId := 66
noncomputable def hash_Mac.body : Code := (Tryz.f66.body).getD .skip
def seal_Sign.n : FuncId := 31
noncomputable def seal_Sign.body : Code := (Tryz.f31.body).getD .skip
def seal_Right.n : FuncId := 37
noncomputable def seal_Right.body : Code := (Tryz.f37.body).getD .skip
def slices_Clone_escrow_api_Update_escrow_api_Update.n : FuncId := 38
noncomputable def slices_Clone_escrow_api_Update_escrow_api_Update.body : Code := (Tryz.f38.body).getD .skip
def dance_Came.n : FuncId := 15
noncomputable def dance_Came.body : Code := (Tryz.f15.body).getD .skip
def bits_TrailingZeros64.n : FuncId := 91
noncomputable def bits_TrailingZeros64.body : Code := (Tryz.f91.body).getD .skip
def seed_Level.n : FuncId := 74
noncomputable def seed_Level.body : Code := (Tryz.f74.body).getD .skip
def seed_Derive.n : FuncId := 75
noncomputable def seed_Derive.body : Code := (Tryz.f75.body).getD .skip
def shelf_Put.n : FuncId := 41
noncomputable def shelf_Put.body : Code := (Tryz.f41.body).getD .skip
def dance_Revoked.n : FuncId := 17
noncomputable def dance_Revoked.body : Code := (Tryz.f17.body).getD .skip
def escrowref09_good.n : FuncId := 92
noncomputable def escrowref09_good.body : Code := (Tryz.f92.body).getD .skip
def escrowref02_padded.n : FuncId := 108
noncomputable def escrowref02_padded.body : Code := (Tryz.f108.body).getD .skip
def escrowref02_rounds.n : FuncId := 113
noncomputable def escrowref02_rounds.body : Code := (Tryz.f113.body).getD .skip
def escrowref02_rot.n : FuncId := 114
noncomputable def escrowref02_rot.body : Code := (Tryz.f114.body).getD .skip
def escrowref02_block.n : FuncId := 109
noncomputable def escrowref02_block.body : Code := (Tryz.f109.body).getD .skip
def escrowref02_One.n : FuncId := 103
noncomputable def escrowref02_One.body : Code := (Tryz.f103.body).getD .skip
def escrowref02_Sum.n : FuncId := 95
noncomputable def escrowref02_Sum.body : Code := (Tryz.f95.body).getD .skip
def escrowref09_Point.n : FuncId := 77
noncomputable def escrowref09_Point.body : Code := (Tryz.f77.body).getD .skip
def escrowref09_down.n : FuncId := 93
noncomputable def escrowref09_down.body : Code := (Tryz.f93.body).getD .skip
def escrowref09_Place.n : FuncId := 94
noncomputable def escrowref09_Place.body : Code := (Tryz.f94.body).getD .skip
def escrowref09_Secret.n : FuncId := 76
noncomputable def escrowref09_Secret.body : Code := (Tryz.f76.body).getD .skip
def escrowlaw15_Point.n : FuncId := 43
noncomputable def escrowlaw15_Point.body : Code := (Tryz.f43.body).getD .skip
def escrowlaw15_Configs.n : FuncId := 19
noncomputable def escrowlaw15_Configs.body : Code := (Tryz.f19.body).getD .skip
def dance_Start.n : FuncId := 20
noncomputable def dance_Start.body : Code := (Tryz.f20.body).getD .skip
def escrowlaw15_fixed.n : FuncId := 4
noncomputable def escrowlaw15_fixed.body : Code := (Tryz.f4.body).getD .skip
def escrowlaw15_Copy.n : FuncId := 6
noncomputable def escrowlaw15_Copy.body : Code := (Tryz.f6.body).getD .skip
def update_first.n : FuncId := 70
noncomputable def update_first.body : Code := (Tryz.f70.body).getD .skip
def update_Find.n : FuncId := 33
noncomputable def update_Find.body : Code := (Tryz.f33.body).getD .skip
def dance_sum.n : FuncId := 35
noncomputable def dance_sum.body : Code := (Tryz.f35.body).getD .skip
def update_Removal.n : FuncId := 54
noncomputable def update_Removal.body : Code := (Tryz.f54.body).getD .skip
def dance_removes.n : FuncId := 27
noncomputable def dance_removes.body : Code := (Tryz.f27.body).getD .skip
def dance_Settle.n : FuncId := 10
noncomputable def dance_Settle.body : Code := (Tryz.f10.body).getD .skip
def dance_Refuse.n : FuncId := 11
noncomputable def dance_Refuse.body : Code := (Tryz.f11.body).getD .skip
def commit_Turn.n : FuncId := 30
noncomputable def commit_Turn.body : Code := (Tryz.f30.body).getD .skip
def dance_Again.n : FuncId := 13
noncomputable def dance_Again.body : Code := (Tryz.f13.body).getD .skip
def update_adds.n : FuncId := 68
noncomputable def update_adds.body : Code := (Tryz.f68.body).getD .skip
def update_Next.n : FuncId := 32
noncomputable def update_Next.body : Code := (Tryz.f32.body).getD .skip
def dance_Heard.n : FuncId := 14
noncomputable def dance_Heard.body : Code := (Tryz.f14.body).getD .skip
def dance_Reveal.n : FuncId := 16
noncomputable def dance_Reveal.body : Code := (Tryz.f16.body).getD .skip
def slices_Clone_escrow_api_Slot_escrow_api_Slot.n : FuncId := 42
noncomputable def slices_Clone_escrow_api_Slot_escrow_api_Slot.body : Code := (Tryz.f42.body).getD .skip
def dance_Cut.n : FuncId := 18
noncomputable def dance_Cut.body : Code := (Tryz.f18.body).getD .skip
def escrowlaw15_DanceRaw.n : FuncId := 3
noncomputable def escrowlaw15_DanceRaw.body : Code := (Tryz.f3.body).getD .skip
def strings_Join.n : FuncId := 88
end Go.Esc.M
