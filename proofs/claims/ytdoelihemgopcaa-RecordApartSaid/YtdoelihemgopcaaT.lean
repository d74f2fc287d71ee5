/- Printed by gen.py (own work): the types of the program Ytdoelihemgopcaa, their table. -/
import Derived.Test.YtdoelihemgopcaaProg
import Derived.Test.YtdoelihemgopcaaER
import Derived.Test.YtdoelihemgopcaaEZm
set_option maxRecDepth 20000
set_option linter.unusedSimpArgs false
set_option linter.unusedVariables false
namespace Go.Esc.M
open Go Go.Esc Go.Proofs

def t_int64 : TypeId := 2
def t_int : TypeId := 3
def t_bool : TypeId := 4
def t_uint8 : TypeId := 5
def t_string : TypeId := 9
def t_api_Errno : TypeId := 24
def t_api_Hash : TypeId := 28
def t_api_Update : TypeId := 30
def t_sl_api_Update : TypeId := 31
def t_api_Counts : TypeId := 33
def t_api_Record : TypeId := 35
def t_ar2_api_Hash : TypeId := 40
def t_sl_api_Slot : TypeId := 41
def t_api_State : TypeId := 43
def t_api_Slot : TypeId := 49
def t_record_change : TypeId := 53
def t_uint16 : TypeId := 67
def t_sl_uint8 : TypeId := 76
def t_cursor_Writer : TypeId := 78
def t_cursor_Reader : TypeId := 81
def t_uint64 : TypeId := 86
def t_record_ours : TypeId := 90
def t_record_signed : TypeId := 92
def t_record_came : TypeId := 94
def t_record_revoked : TypeId := 96
def t_record_failed : TypeId := 98
def t_record_closed : TypeId := 100
def t_uint : TypeId := 101
def t_uint32 : TypeId := 111
def t_sl_string : TypeId := 130
def t_ar8_uint32 : TypeId := 132
def t_ar64_uint32 : TypeId := 133
def t_ar64_uint8 : TypeId := 166
def z_int64 : AVal := .int .i64 0
def ti_int64 : TI := ⟨.int .i64, 1, 8, z_int64⟩
def z_int : AVal := .int .i64 0
def ti_int : TI := ⟨.int .i64, 1, 8, z_int⟩
def z_bool : AVal := .bool false
def ti_bool : TI := ⟨.bool, 1, 1, z_bool⟩
def z_uint8 : AVal := .int .u8 0
def ti_uint8 : TI := ⟨.int .u8, 1, 1, z_uint8⟩
def z_string : AVal := .str []
def ti_string : TI := ⟨.string, 1, 16, z_string⟩
def z_api_Errno : AVal := .int .i64 0
def ti_api_Errno : TI := ⟨.int .i64, 1, 8, z_api_Errno⟩
def z_api_Hash : AVal := .agg (List.replicate 32 (.int .u8 0))
def ti_api_Hash : TI := ⟨.array 32 t_uint8, 32, 32, z_api_Hash⟩
def z_api_Update : AVal := .agg [.int .i64 0, .int .i64 0, .int .i64 0, .agg (List.replicate 32 (.int .u8 0)), .str []]
def ti_api_Update : TI := ⟨.struct [(t_int, 0), (t_int64, 1), (t_int64, 2), (t_api_Hash, 3), (t_string, 35)], 36, 72, z_api_Update⟩
def z_sl_api_Update : AVal := .nilSlice
def ti_sl_api_Update : TI := ⟨.slice t_api_Update, 1, 24, z_sl_api_Update⟩
def z_api_Counts : AVal := .agg [.int .i64 0, .int .i64 0]
def ti_api_Counts : TI := ⟨.struct [(t_int, 0), (t_int, 1)], 2, 16, z_api_Counts⟩
def z_api_Record : AVal := .agg [.int .i64 0, .agg [.int .i64 0, .int .i64 0, .int .i64 0, .agg (List.replicate 32 (.int .u8 0)), .str []], .nilSlice, .int .i64 0, .agg [.int .i64 0, .int .i64 0], .agg (List.replicate 32 (.int .u8 0)), .agg (List.replicate 32 (.int .u8 0)), .agg (List.replicate 32 (.int .u8 0)), .int .i64 0]
def ti_api_Record : TI := ⟨.struct [(t_int, 0), (t_api_Update, 1), (t_sl_api_Update, 37), (t_int64, 38), (t_api_Counts, 39), (t_api_Hash, 41), (t_api_Hash, 73), (t_api_Hash, 105), (t_int, 137)], 138, 232, z_api_Record⟩
def z_ar2_api_Hash : AVal := .agg (List.replicate 2 (.agg (List.replicate 32 (.int .u8 0))))
def ti_ar2_api_Hash : TI := ⟨.array 2 t_api_Hash, 64, 64, z_ar2_api_Hash⟩
def z_sl_api_Slot : AVal := .nilSlice
def ti_sl_api_Slot : TI := ⟨.slice t_api_Slot, 1, 24, z_sl_api_Slot⟩
def z_api_State : AVal := .agg [.int .i64 0, .int .i64 0, .int .i64 0, .int .i64 0, .nilSlice, .nilSlice, .int .i64 0, .int .i64 0, .int .i64 0, .agg [.int .i64 0, .int .i64 0], .agg [.int .i64 0, .int .i64 0], .agg [.int .i64 0, .int .i64 0], .bool false, .agg (List.replicate 2 (.agg (List.replicate 32 (.int .u8 0)))), .agg (List.replicate 32 (.int .u8 0)), .nilSlice, .int .i64 0, .int .i64 0]
def ti_api_State : TI := ⟨.struct [(t_int, 0), (t_int64, 1), (t_int64, 2), (t_int64, 3), (t_sl_api_Update, 4), (t_sl_api_Update, 5), (t_int64, 6), (t_int64, 7), (t_int64, 8), (t_api_Counts, 9), (t_api_Counts, 11), (t_api_Counts, 13), (t_bool, 15), (t_ar2_api_Hash, 16), (t_api_Hash, 80), (t_sl_api_Slot, 112), (t_int, 113), (t_int64, 114)], 115, 296, z_api_State⟩
def z_api_Slot : AVal := .agg [.int .i64 0, .agg (List.replicate 32 (.int .u8 0)), .bool false]
def ti_api_Slot : TI := ⟨.struct [(t_int64, 0), (t_api_Hash, 1), (t_bool, 33)], 34, 48, z_api_Slot⟩
def z_record_change : AVal := .nilIface
def ti_record_change : TI := ⟨.iface, 1, 16, z_record_change⟩
def z_uint16 : AVal := .int .u16 0
def ti_uint16 : TI := ⟨.int .u16, 1, 2, z_uint16⟩
def z_sl_uint8 : AVal := .nilSlice
def ti_sl_uint8 : TI := ⟨.slice t_uint8, 1, 24, z_sl_uint8⟩
def z_cursor_Writer : AVal := .agg [.nilSlice, .int .i64 0]
def ti_cursor_Writer : TI := ⟨.struct [(t_sl_uint8, 0), (t_api_Errno, 1)], 2, 32, z_cursor_Writer⟩
def z_cursor_Reader : AVal := .agg [.str [], .int .i64 0]
def ti_cursor_Reader : TI := ⟨.struct [(t_string, 0), (t_api_Errno, 1)], 2, 24, z_cursor_Reader⟩
def z_uint64 : AVal := .int .u64 0
def ti_uint64 : TI := ⟨.int .u64, 1, 8, z_uint64⟩
def z_record_ours : AVal := .agg [.agg [.int .i64 0, .int .i64 0, .int .i64 0, .agg (List.replicate 32 (.int .u8 0)), .str []]]
def ti_record_ours : TI := ⟨.struct [(t_api_Update, 0)], 36, 72, z_record_ours⟩
def z_record_signed : AVal := .agg [.int .i64 0, .agg [.int .i64 0, .int .i64 0]]
def ti_record_signed : TI := ⟨.struct [(t_int64, 0), (t_api_Counts, 1)], 3, 24, z_record_signed⟩
def z_record_came : AVal := .agg [.int .i64 0, .nilSlice, .agg (List.replicate 32 (.int .u8 0))]
def ti_record_came : TI := ⟨.struct [(t_int64, 0), (t_sl_api_Update, 1), (t_api_Hash, 2)], 34, 64, z_record_came⟩
def z_record_revoked : AVal := .agg [.int .i64 0, .agg (List.replicate 32 (.int .u8 0)), .agg (List.replicate 32 (.int .u8 0))]
def ti_record_revoked : TI := ⟨.struct [(t_int64, 0), (t_api_Hash, 1), (t_api_Hash, 33)], 65, 72, z_record_revoked⟩
def z_record_failed : AVal := .agg [.int .i64 0]
def ti_record_failed : TI := ⟨.struct [(t_int, 0)], 1, 8, z_record_failed⟩
def z_record_closed : AVal := .agg [.int .i64 0]
def ti_record_closed : TI := ⟨.struct [(t_int64, 0)], 1, 8, z_record_closed⟩
def z_uint : AVal := .int .u64 0
def ti_uint : TI := ⟨.int .u64, 1, 8, z_uint⟩
def z_uint32 : AVal := .int .u32 0
def ti_uint32 : TI := ⟨.int .u32, 1, 4, z_uint32⟩
def z_sl_string : AVal := .nilSlice
def ti_sl_string : TI := ⟨.slice t_string, 1, 24, z_sl_string⟩
def z_ar8_uint32 : AVal := .agg (List.replicate 8 (.int .u32 0))
def ti_ar8_uint32 : TI := ⟨.array 8 t_uint32, 8, 32, z_ar8_uint32⟩
def z_ar64_uint32 : AVal := .agg (List.replicate 64 (.int .u32 0))
def ti_ar64_uint32 : TI := ⟨.array 64 t_uint32, 64, 256, z_ar64_uint32⟩
def z_ar64_uint8 : AVal := .agg (List.replicate 64 (.int .u8 0))
def ti_ar64_uint8 : TI := ⟨.array 64 t_uint8, 64, 64, z_ar64_uint8⟩
noncomputable abbrev P : Program := Try.prog
theorem tyOk_int64 : TyOk P 2 ti_int64 := TyOk.mk' (by kernel_rfl) (by kernel_rfl) (by kernel_rfl) (by kernel_rfl)
theorem tyOk_int : TyOk P 3 ti_int := TyOk.mk' (by kernel_rfl) (by kernel_rfl) (by kernel_rfl) (by kernel_rfl)
theorem tyOk_bool : TyOk P 4 ti_bool := TyOk.mk' (by kernel_rfl) (by kernel_rfl) (by kernel_rfl) (by kernel_rfl)
theorem tyOk_uint8 : TyOk P 5 ti_uint8 := TyOk.mk' (by kernel_rfl) (by kernel_rfl) (by kernel_rfl) (by kernel_rfl)
theorem tyOk_string : TyOk P 9 ti_string := TyOk.mk' (by kernel_rfl) (by kernel_rfl) (by kernel_rfl) (by kernel_rfl)
theorem tyOk_api_Errno : TyOk P 24 ti_api_Errno := TyOk.mk' (by kernel_rfl) (by kernel_rfl) (by kernel_rfl) (by kernel_rfl)
theorem tyOk_api_Hash : TyOk P 28 ti_api_Hash := TyOk.mk' (by kernel_rfl) (by kernel_rfl) (by kernel_rfl) (by kernel_rfl)
theorem tyOk_api_Update : TyOk P 30 ti_api_Update := TyOk.mk' (by kernel_rfl) (by kernel_rfl) (by kernel_rfl) (by kernel_rfl)
theorem tyOk_sl_api_Update : TyOk P 31 ti_sl_api_Update := TyOk.mk' (by kernel_rfl) (by kernel_rfl) (by kernel_rfl) (by kernel_rfl)
theorem tyOk_api_Counts : TyOk P 33 ti_api_Counts := TyOk.mk' (by kernel_rfl) (by kernel_rfl) (by kernel_rfl) (by kernel_rfl)
theorem tyOk_api_Record : TyOk P 35 ti_api_Record := TyOk.mk' (by kernel_rfl) (by kernel_rfl) (by kernel_rfl) (by kernel_rfl)
theorem tyOk_ar2_api_Hash : TyOk P 40 ti_ar2_api_Hash := TyOk.mk' (by kernel_rfl) (by kernel_rfl) (by kernel_rfl) (by kernel_rfl)
theorem tyOk_sl_api_Slot : TyOk P 41 ti_sl_api_Slot := TyOk.mk' (by kernel_rfl) (by kernel_rfl) (by kernel_rfl) (by kernel_rfl)
theorem tyOk_api_State : TyOk P 43 ti_api_State := TyOk.mk' (by kernel_rfl) (by kernel_rfl) (by kernel_rfl) (by kernel_rfl)
theorem tyOk_api_Slot : TyOk P 49 ti_api_Slot := TyOk.mk' (by kernel_rfl) (by kernel_rfl) (by kernel_rfl) (by kernel_rfl)
theorem tyOk_record_change : TyOk P 53 ti_record_change := TyOk.mk' (by kernel_rfl) (by kernel_rfl) (by kernel_rfl) (by kernel_rfl)
theorem tyOk_uint16 : TyOk P 67 ti_uint16 := TyOk.mk' (by kernel_rfl) (by kernel_rfl) (by kernel_rfl) (by kernel_rfl)
theorem tyOk_sl_uint8 : TyOk P 76 ti_sl_uint8 := TyOk.mk' (by kernel_rfl) (by kernel_rfl) (by kernel_rfl) (by kernel_rfl)
theorem tyOk_cursor_Writer : TyOk P 78 ti_cursor_Writer := TyOk.mk' (by kernel_rfl) (by kernel_rfl) (by kernel_rfl) (by kernel_rfl)
theorem tyOk_cursor_Reader : TyOk P 81 ti_cursor_Reader := TyOk.mk' (by kernel_rfl) (by kernel_rfl) (by kernel_rfl) (by kernel_rfl)
theorem tyOk_uint64 : TyOk P 86 ti_uint64 := TyOk.mk' (by kernel_rfl) (by kernel_rfl) (by kernel_rfl) (by kernel_rfl)
theorem tyOk_record_ours : TyOk P 90 ti_record_ours := TyOk.mk' (by kernel_rfl) (by kernel_rfl) (by kernel_rfl) (by kernel_rfl)
theorem tyOk_record_signed : TyOk P 92 ti_record_signed := TyOk.mk' (by kernel_rfl) (by kernel_rfl) (by kernel_rfl) (by kernel_rfl)
theorem tyOk_record_came : TyOk P 94 ti_record_came := TyOk.mk' (by kernel_rfl) (by kernel_rfl) (by kernel_rfl) (by kernel_rfl)
theorem tyOk_record_revoked : TyOk P 96 ti_record_revoked := TyOk.mk' (by kernel_rfl) (by kernel_rfl) (by kernel_rfl) (by kernel_rfl)
theorem tyOk_record_failed : TyOk P 98 ti_record_failed := TyOk.mk' (by kernel_rfl) (by kernel_rfl) (by kernel_rfl) (by kernel_rfl)
theorem tyOk_record_closed : TyOk P 100 ti_record_closed := TyOk.mk' (by kernel_rfl) (by kernel_rfl) (by kernel_rfl) (by kernel_rfl)
theorem tyOk_uint : TyOk P 101 ti_uint := TyOk.mk' (by kernel_rfl) (by kernel_rfl) (by kernel_rfl) (by kernel_rfl)
theorem tyOk_uint32 : TyOk P 111 ti_uint32 := TyOk.mk' (by kernel_rfl) (by kernel_rfl) (by kernel_rfl) (by kernel_rfl)
theorem tyOk_sl_string : TyOk P 130 ti_sl_string := TyOk.mk' (by kernel_rfl) (by kernel_rfl) (by kernel_rfl) (by kernel_rfl)
theorem tyOk_ar8_uint32 : TyOk P 132 ti_ar8_uint32 := TyOk.mk' (by kernel_rfl) (by kernel_rfl) (by kernel_rfl) (by kernel_rfl)
theorem tyOk_ar64_uint32 : TyOk P 133 ti_ar64_uint32 := TyOk.mk' (by kernel_rfl) (by kernel_rfl) (by kernel_rfl) (by kernel_rfl)
theorem tyOk_ar64_uint8 : TyOk P 166 ti_ar64_uint8 := TyOk.mk' (by kernel_rfl) (by kernel_rfl) (by kernel_rfl) (by kernel_rfl)
def T : Tbl := (Tbl.cons 2 ti_int64 (Tbl.cons 3 ti_int (Tbl.cons 4 ti_bool (Tbl.cons 5 ti_uint8 (Tbl.cons 9 ti_string (Tbl.cons 24 ti_api_Errno (Tbl.cons 28 ti_api_Hash (Tbl.cons 30 ti_api_Update (Tbl.cons 31 ti_sl_api_Update (Tbl.cons 33 ti_api_Counts (Tbl.cons 35 ti_api_Record (Tbl.cons 40 ti_ar2_api_Hash (Tbl.cons 41 ti_sl_api_Slot (Tbl.cons 43 ti_api_State (Tbl.cons 49 ti_api_Slot (Tbl.cons 53 ti_record_change (Tbl.cons 67 ti_uint16 (Tbl.cons 76 ti_sl_uint8 (Tbl.cons 78 ti_cursor_Writer (Tbl.cons 81 ti_cursor_Reader (Tbl.cons 86 ti_uint64 (Tbl.cons 90 ti_record_ours (Tbl.cons 92 ti_record_signed (Tbl.cons 94 ti_record_came (Tbl.cons 96 ti_record_revoked (Tbl.cons 98 ti_record_failed (Tbl.cons 100 ti_record_closed (Tbl.cons 101 ti_uint (Tbl.cons 111 ti_uint32 (Tbl.cons 130 ti_sl_string (Tbl.cons 132 ti_ar8_uint32 (Tbl.cons 133 ti_ar64_uint32 (Tbl.cons 166 ti_ar64_uint8 Tbl.nil)))))))))))))))))))))))))))))))))
theorem tblOk : TblOk P T := (TblOk.cons tyOk_int64 (TblOk.cons tyOk_int (TblOk.cons tyOk_bool (TblOk.cons tyOk_uint8 (TblOk.cons tyOk_string (TblOk.cons tyOk_api_Errno (TblOk.cons tyOk_api_Hash (TblOk.cons tyOk_api_Update (TblOk.cons tyOk_sl_api_Update (TblOk.cons tyOk_api_Counts (TblOk.cons tyOk_api_Record (TblOk.cons tyOk_ar2_api_Hash (TblOk.cons tyOk_sl_api_Slot (TblOk.cons tyOk_api_State (TblOk.cons tyOk_api_Slot (TblOk.cons tyOk_record_change (TblOk.cons tyOk_uint16 (TblOk.cons tyOk_sl_uint8 (TblOk.cons tyOk_cursor_Writer (TblOk.cons tyOk_cursor_Reader (TblOk.cons tyOk_uint64 (TblOk.cons tyOk_record_ours (TblOk.cons tyOk_record_signed (TblOk.cons tyOk_record_came (TblOk.cons tyOk_record_revoked (TblOk.cons tyOk_record_failed (TblOk.cons tyOk_record_closed (TblOk.cons tyOk_uint (TblOk.cons tyOk_uint32 (TblOk.cons tyOk_sl_string (TblOk.cons tyOk_ar8_uint32 (TblOk.cons tyOk_ar64_uint32 (TblOk.cons tyOk_ar64_uint8 TblOk.nil)))))))))))))))))))))))))))))))))
theorem T_int64 : T t_int64 = some ti_int64 := rfl
theorem T_int : T t_int = some ti_int := rfl
theorem T_bool : T t_bool = some ti_bool := rfl
theorem T_uint8 : T t_uint8 = some ti_uint8 := rfl
theorem T_string : T t_string = some ti_string := rfl
theorem T_api_Errno : T t_api_Errno = some ti_api_Errno := rfl
theorem T_api_Hash : T t_api_Hash = some ti_api_Hash := rfl
theorem T_api_Update : T t_api_Update = some ti_api_Update := rfl
theorem T_sl_api_Update : T t_sl_api_Update = some ti_sl_api_Update := rfl
theorem T_api_Counts : T t_api_Counts = some ti_api_Counts := rfl
theorem T_api_Record : T t_api_Record = some ti_api_Record := rfl
theorem T_ar2_api_Hash : T t_ar2_api_Hash = some ti_ar2_api_Hash := rfl
theorem T_sl_api_Slot : T t_sl_api_Slot = some ti_sl_api_Slot := rfl
theorem T_api_State : T t_api_State = some ti_api_State := rfl
theorem T_api_Slot : T t_api_Slot = some ti_api_Slot := rfl
theorem T_record_change : T t_record_change = some ti_record_change := rfl
theorem T_uint16 : T t_uint16 = some ti_uint16 := rfl
theorem T_sl_uint8 : T t_sl_uint8 = some ti_sl_uint8 := rfl
theorem T_cursor_Writer : T t_cursor_Writer = some ti_cursor_Writer := rfl
theorem T_cursor_Reader : T t_cursor_Reader = some ti_cursor_Reader := rfl
theorem T_uint64 : T t_uint64 = some ti_uint64 := rfl
theorem T_record_ours : T t_record_ours = some ti_record_ours := rfl
theorem T_record_signed : T t_record_signed = some ti_record_signed := rfl
theorem T_record_came : T t_record_came = some ti_record_came := rfl
theorem T_record_revoked : T t_record_revoked = some ti_record_revoked := rfl
theorem T_record_failed : T t_record_failed = some ti_record_failed := rfl
theorem T_record_closed : T t_record_closed = some ti_record_closed := rfl
theorem T_uint : T t_uint = some ti_uint := rfl
theorem T_uint32 : T t_uint32 = some ti_uint32 := rfl
theorem T_sl_string : T t_sl_string = some ti_sl_string := rfl
theorem T_ar8_uint32 : T t_ar8_uint32 = some ti_ar8_uint32 := rfl
theorem T_ar64_uint32 : T t_ar64_uint32 = some ti_ar64_uint32 := rfl
theorem T_ar64_uint8 : T t_ar64_uint8 = some ti_ar64_uint8 := rfl
def methL : List (TypeId × String × FuncId) := [(90, "escrow/record.apply", 57), (90, "escrow/record.record", 58), (90, "escrow/record.valid", 59), (90, "escrow/record.write", 60), (92, "escrow/record.apply", 87), (92, "escrow/record.record", 88), (92, "escrow/record.valid", 89), (92, "escrow/record.write", 90), (94, "escrow/record.apply", 93), (94, "escrow/record.record", 94), (94, "escrow/record.valid", 95), (94, "escrow/record.write", 96), (96, "escrow/record.apply", 100), (96, "escrow/record.record", 101), (96, "escrow/record.valid", 102), (96, "escrow/record.write", 103), (98, "escrow/record.apply", 112), (98, "escrow/record.record", 113), (98, "escrow/record.valid", 114), (98, "escrow/record.write", 115), (100, "escrow/record.apply", 116), (100, "escrow/record.record", 117), (100, "escrow/record.valid", 118), (100, "escrow/record.write", 119)]
noncomputable def cx : Cx := ⟨P, T, methT methL⟩
theorem cxOk : CxOk cx := ⟨tblOk, methT_ok (by kernel_rfl)⟩
abbrev g_internal_bytealg_MaxLen : AId := ⟨0, 0, 0⟩
abbrev g_math_bits_deBruijn64tab : AId := ⟨1, 0, 0⟩
theorem mixed : P.follows .mixedOrders = true := by kernel_rfl
theorem drawsOk_of {c : Code} {an : Ann} (h : drawB cx c an = true) (_ : (0 : Nat) = 0) : drawsOk cx c an := drawsOk_of_check cxOk mixed c an h
def record_of.n : FuncId := 27
noncomputable def record_of.body : Code := (Try.f27.body).getD .skip
def slices_Equal_escrow_api_Update_escrow_api_Update.n : FuncId := 35
noncomputable def slices_Equal_escrow_api_Update_escrow_api_Update.body : Code := (Try.f35.body).getD .skip
def record_same.n : FuncId := 28
noncomputable def record_same.body : Code := (Try.f28.body).getD .skip
def record_ours_record.n : FuncId := 58
noncomputable def record_ours_record.body : Code := (Try.f58.body).getD .skip
def update_Valid.n : FuncId := 39
noncomputable def update_Valid.body : Code := (Try.f39.body).getD .skip
def record_ours_valid.n : FuncId := 59
noncomputable def record_ours_valid.body : Code := (Try.f59.body).getD .skip
def record_signed_record.n : FuncId := 88
noncomputable def record_signed_record.body : Code := (Try.f88.body).getD .skip
def record_isIndex.n : FuncId := 91
noncomputable def record_isIndex.body : Code := (Try.f91.body).getD .skip
def record_isCount.n : FuncId := 92
noncomputable def record_isCount.body : Code := (Try.f92.body).getD .skip
def record_signed_valid.n : FuncId := 89
noncomputable def record_signed_valid.body : Code := (Try.f89.body).getD .skip
def record_came_record.n : FuncId := 94
noncomputable def record_came_record.body : Code := (Try.f94.body).getD .skip
def slices_IndexFunc_escrow_api_Update_escrow_api_Update.n : FuncId := 99
noncomputable def slices_IndexFunc_escrow_api_Update_escrow_api_Update.body : Code := (Try.f99.body).getD .skip
def slices_ContainsFunc_escrow_api_Update_escrow_api_Update.n : FuncId := 97
noncomputable def slices_ContainsFunc_escrow_api_Update_escrow_api_Update.body : Code := (Try.f97.body).getD .skip
def record_came_valid_1.n : FuncId := 98
noncomputable def record_came_valid_1.body : Code := (Try.f98.body).getD .skip
def record_came_valid.n : FuncId := 95
noncomputable def record_came_valid.body : Code := (Try.f95.body).getD .skip
def record_revoked_record.n : FuncId := 101
noncomputable def record_revoked_record.body : Code := (Try.f101.body).getD .skip
def record_revoked_valid.n : FuncId := 102
noncomputable def record_revoked_valid.body : Code := (Try.f102.body).getD .skip
def record_failed_record.n : FuncId := 113
noncomputable def record_failed_record.body : Code := (Try.f113.body).getD .skip
def record_failed_valid.n : FuncId := 114
noncomputable def record_failed_valid.body : Code := (Try.f114.body).getD .skip
def record_closed_record.n : FuncId := 117
noncomputable def record_closed_record.body : Code := (Try.f117.body).getD .skip
def record_closed_valid.n : FuncId := 118
noncomputable def record_closed_valid.body : Code := (Try.f118.body).getD .skip
def record_changed.n : FuncId := 13
noncomputable def record_changed.body : Code := (Try.f13.body).getD .skip
def cursor_New.n : FuncId := 14
noncomputable def cursor_New.body : Code := (Try.f14.body).getD .skip
def cursor_lay_uint8.n : FuncId := 29
noncomputable def cursor_lay_uint8.body : Code := (Try.f29.body).getD .skip
def cursor_Writer_U8.n : FuncId := 15
noncomputable def cursor_Writer_U8.body : Code := (Try.f15.body).getD .skip
def cursor_Writer_Out.n : FuncId := 16
noncomputable def cursor_Writer_Out.body : Code := (Try.f16.body).getD .skip
def cursor_lay_uint64.n : FuncId := 76
noncomputable def cursor_lay_uint64.body : Code := (Try.f76.body).getD .skip
def cursor_Writer_I64.n : FuncId := 56
noncomputable def cursor_Writer_I64.body : Code := (Try.f56.body).getD .skip
def cursor_lay_uint16.n : FuncId := 82
noncomputable def cursor_lay_uint16.body : Code := (Try.f82.body).getD .skip
def cursor_Writer_U16.n : FuncId := 73
noncomputable def cursor_Writer_U16.body : Code := (Try.f73.body).getD .skip
def cursor_Writer_Raw.n : FuncId := 68
noncomputable def cursor_Writer_Raw.body : Code := (Try.f68.body).getD .skip
def cursor_Writer_Hash.n : FuncId := 74
noncomputable def cursor_Writer_Hash.body : Code := (Try.f74.body).getD .skip
def cursor_Writer_Text.n : FuncId := 75
noncomputable def cursor_Writer_Text.body : Code := (Try.f75.body).getD .skip
def update_Write.n : FuncId := 67
noncomputable def update_Write.body : Code := (Try.f67.body).getD .skip
def record_raw.n : FuncId := 62
noncomputable def record_raw.body : Code := (Try.f62.body).getD .skip
def record_ours_write.n : FuncId := 60
noncomputable def record_ours_write.body : Code := (Try.f60.body).getD .skip
def record_signed_write.n : FuncId := 90
noncomputable def record_signed_write.body : Code := (Try.f90.body).getD .skip
def record_came_write.n : FuncId := 96
noncomputable def record_came_write.body : Code := (Try.f96.body).getD .skip
def record_revoked_write.n : FuncId := 103
noncomputable def record_revoked_write.body : Code := (Try.f103.body).getD .skip
def record_failed_write.n : FuncId := 115
noncomputable def record_failed_write.body : Code := (Try.f115.body).getD .skip
def record_closed_write.n : FuncId := 119
noncomputable def record_closed_write.body : Code := (Try.f119.body).getD .skip
def record_Write.n : FuncId := 7
noncomputable def record_Write.body : Code := (Try.f7.body).getD .skip
def cursor_Open.n : FuncId := 17
noncomputable def cursor_Open.body : Code := (Try.f17.body).getD .skip
def cursor_value_uint8.n : FuncId := 30
noncomputable def cursor_value_uint8.body : Code := (Try.f30.body).getD .skip
def cursor_Reader_breaks.n : FuncId := 36
noncomputable def cursor_Reader_breaks.body : Code := (Try.f36.body).getD .skip
def cursor_Reader_take.n : FuncId := 31
noncomputable def cursor_Reader_take.body : Code := (Try.f31.body).getD .skip
def cursor_Reader_U8.n : FuncId := 18
noncomputable def cursor_Reader_U8.body : Code := (Try.f18.body).getD .skip
def cursor_Reader_Rest.n : FuncId := 20
noncomputable def cursor_Reader_Rest.body : Code := (Try.f20.body).getD .skip
def cursor_value_uint64.n : FuncId := 33
noncomputable def cursor_value_uint64.body : Code := (Try.f33.body).getD .skip
def cursor_Reader_I64.n : FuncId := 21
noncomputable def cursor_Reader_I64.body : Code := (Try.f21.body).getD .skip
def cursor_value_uint16.n : FuncId := 34
noncomputable def cursor_value_uint16.body : Code := (Try.f34.body).getD .skip
def cursor_Reader_U16.n : FuncId := 22
noncomputable def cursor_Reader_U16.body : Code := (Try.f22.body).getD .skip
def cursor_Reader_Err.n : FuncId := 23
noncomputable def cursor_Reader_Err.body : Code := (Try.f23.body).getD .skip
def cursor_Reader_Hash.n : FuncId := 24
noncomputable def cursor_Reader_Hash.body : Code := (Try.f24.body).getD .skip
def cursor_Reader_Text.n : FuncId := 37
noncomputable def cursor_Reader_Text.body : Code := (Try.f37.body).getD .skip
def update_fault.n : FuncId := 38
noncomputable def update_fault.body : Code := (Try.f38.body).getD .skip
def update_Read.n : FuncId := 32
noncomputable def update_Read.body : Code := (Try.f32.body).getD .skip
def record_updates.n : FuncId := 19
noncomputable def record_updates.body : Code := (Try.f19.body).getD .skip
def record_Read.n : FuncId := 8
noncomputable def record_Read.body : Code := (Try.f8.body).getD .skip
def slices_Clone_escrow_api_Update_escrow_api_Update.n : FuncId := 25
noncomputable def slices_Clone_escrow_api_Update_escrow_api_Update.body : Code := (Try.f25.body).getD .skip
def slices_Clone_escrow_api_Slot_escrow_api_Slot.n : FuncId := 26
noncomputable def slices_Clone_escrow_api_Slot_escrow_api_Slot.body : Code := (Try.f26.body).getD .skip
def update_adds.n : FuncId := 63
noncomputable def update_adds.body : Code := (Try.f63.body).getD .skip
def update_first.n : FuncId := 69
noncomputable def update_first.body : Code := (Try.f69.body).getD .skip
def update_Find.n : FuncId := 64
noncomputable def update_Find.body : Code := (Try.f64.body).getD .skip
def update_Removal.n : FuncId := 65
noncomputable def update_Removal.body : Code := (Try.f65.body).getD .skip
def hash_constants.n : FuncId := 71
noncomputable def hash_constants.body : Code := (Try.f71.body).getD .skip
def bits_RotateLeft32.n : FuncId := 81
noncomputable def bits_RotateLeft32.body : Code := (Try.f81.body).getD .skip
def hash_schedule.n : FuncId := 80
noncomputable def hash_schedule.body : Code := (Try.f80.body).getD .skip
def hash_turned.n : FuncId := 72
noncomputable def hash_turned.body : Code := (Try.f72.body).getD .skip
def hash_Sum.n : FuncId := 66
noncomputable def hash_Sum.body : Code := (Try.f66.body).getD .skip
def update_Next.n : FuncId := 61
noncomputable def update_Next.body : Code := (Try.f61.body).getD .skip
def record_ours_apply.n : FuncId := 57
noncomputable def record_ours_apply.body : Code := (Try.f57.body).getD .skip
def record_signed_apply.n : FuncId := 87
noncomputable def record_signed_apply.body : Code := (Try.f87.body).getD .skip
def record_came_apply.n : FuncId := 93
noncomputable def record_came_apply.body : Code := (Try.f93.body).getD .skip
def seed_right.n : FuncId := 107
noncomputable def seed_right.body : Code := (Try.f107.body).getD .skip
def bits_TrailingZeros64.n : FuncId := 108
noncomputable def bits_TrailingZeros64.body : Code := (Try.f108.body).getD .skip
def seed_place.n : FuncId := 109
noncomputable def seed_place.body : Code := (Try.f109.body).getD .skip
def seed_Level.n : FuncId := 105
noncomputable def seed_Level.body : Code := (Try.f105.body).getD .skip
def seed_Point.n : FuncId := 111
noncomputable def seed_Point.body : Code := (Try.f111.body).getD .skip
def seed_down.n : FuncId := 110
noncomputable def seed_down.body : Code := (Try.f110.body).getD .skip
def seed_Derive.n : FuncId := 106
noncomputable def seed_Derive.body : Code := (Try.f106.body).getD .skip
def shelf_Put.n : FuncId := 104
noncomputable def shelf_Put.body : Code := (Try.f104.body).getD .skip
def record_revoked_apply.n : FuncId := 100
noncomputable def record_revoked_apply.body : Code := (Try.f100.body).getD .skip
def record_failed_apply.n : FuncId := 112
noncomputable def record_failed_apply.body : Code := (Try.f112.body).getD .skip
def record_closed_apply.n : FuncId := 116
noncomputable def record_closed_apply.body : Code := (Try.f116.body).getD .skip
def record_Apply.n : FuncId := 10
noncomputable def record_Apply.body : Code := (Try.f10.body).getD .skip
def escrowlaw17_head.n : FuncId := 6
noncomputable def escrowlaw17_head.body : Code := (Try.f6.body).getD .skip
def escrowlaw17_sameList.n : FuncId := 11
noncomputable def escrowlaw17_sameList.body : Code := (Try.f11.body).getD .skip
def escrowlaw17_readApart.n : FuncId := 12
noncomputable def escrowlaw17_readApart.body : Code := (Try.f12.body).getD .skip
def escrowlaw17_RecordApart.n : FuncId := 5
noncomputable def escrowlaw17_RecordApart.body : Code := (Try.f5.body).getD .skip
def strings_Join.n : FuncId := 70
theorem inv_record_ours_apply {v : AVal} {args : List AVal} {G : Heap} {K : AVal → Heap → Prop} (h : ACalls P record_ours_apply.n (v :: args) G K) : aInvoke cx (.iface t_record_ours v) "escrow/record.apply" args G K := inv_of (show methT methL t_record_ours "escrow/record.apply" = some record_ours_apply.n by kernel_rfl) h
theorem inv_record_ours_record {v : AVal} {args : List AVal} {G : Heap} {K : AVal → Heap → Prop} (h : ACalls P record_ours_record.n (v :: args) G K) : aInvoke cx (.iface t_record_ours v) "escrow/record.record" args G K := inv_of (show methT methL t_record_ours "escrow/record.record" = some record_ours_record.n by kernel_rfl) h
theorem inv_record_ours_valid {v : AVal} {args : List AVal} {G : Heap} {K : AVal → Heap → Prop} (h : ACalls P record_ours_valid.n (v :: args) G K) : aInvoke cx (.iface t_record_ours v) "escrow/record.valid" args G K := inv_of (show methT methL t_record_ours "escrow/record.valid" = some record_ours_valid.n by kernel_rfl) h
theorem inv_record_ours_write {v : AVal} {args : List AVal} {G : Heap} {K : AVal → Heap → Prop} (h : ACalls P record_ours_write.n (v :: args) G K) : aInvoke cx (.iface t_record_ours v) "escrow/record.write" args G K := inv_of (show methT methL t_record_ours "escrow/record.write" = some record_ours_write.n by kernel_rfl) h
theorem inv_record_signed_apply {v : AVal} {args : List AVal} {G : Heap} {K : AVal → Heap → Prop} (h : ACalls P record_signed_apply.n (v :: args) G K) : aInvoke cx (.iface t_record_signed v) "escrow/record.apply" args G K := inv_of (show methT methL t_record_signed "escrow/record.apply" = some record_signed_apply.n by kernel_rfl) h
theorem inv_record_signed_record {v : AVal} {args : List AVal} {G : Heap} {K : AVal → Heap → Prop} (h : ACalls P record_signed_record.n (v :: args) G K) : aInvoke cx (.iface t_record_signed v) "escrow/record.record" args G K := inv_of (show methT methL t_record_signed "escrow/record.record" = some record_signed_record.n by kernel_rfl) h
theorem inv_record_signed_valid {v : AVal} {args : List AVal} {G : Heap} {K : AVal → Heap → Prop} (h : ACalls P record_signed_valid.n (v :: args) G K) : aInvoke cx (.iface t_record_signed v) "escrow/record.valid" args G K := inv_of (show methT methL t_record_signed "escrow/record.valid" = some record_signed_valid.n by kernel_rfl) h
theorem inv_record_signed_write {v : AVal} {args : List AVal} {G : Heap} {K : AVal → Heap → Prop} (h : ACalls P record_signed_write.n (v :: args) G K) : aInvoke cx (.iface t_record_signed v) "escrow/record.write" args G K := inv_of (show methT methL t_record_signed "escrow/record.write" = some record_signed_write.n by kernel_rfl) h
theorem inv_record_came_apply {v : AVal} {args : List AVal} {G : Heap} {K : AVal → Heap → Prop} (h : ACalls P record_came_apply.n (v :: args) G K) : aInvoke cx (.iface t_record_came v) "escrow/record.apply" args G K := inv_of (show methT methL t_record_came "escrow/record.apply" = some record_came_apply.n by kernel_rfl) h
theorem inv_record_came_record {v : AVal} {args : List AVal} {G : Heap} {K : AVal → Heap → Prop} (h : ACalls P record_came_record.n (v :: args) G K) : aInvoke cx (.iface t_record_came v) "escrow/record.record" args G K := inv_of (show methT methL t_record_came "escrow/record.record" = some record_came_record.n by kernel_rfl) h
theorem inv_record_came_valid {v : AVal} {args : List AVal} {G : Heap} {K : AVal → Heap → Prop} (h : ACalls P record_came_valid.n (v :: args) G K) : aInvoke cx (.iface t_record_came v) "escrow/record.valid" args G K := inv_of (show methT methL t_record_came "escrow/record.valid" = some record_came_valid.n by kernel_rfl) h
theorem inv_record_came_write {v : AVal} {args : List AVal} {G : Heap} {K : AVal → Heap → Prop} (h : ACalls P record_came_write.n (v :: args) G K) : aInvoke cx (.iface t_record_came v) "escrow/record.write" args G K := inv_of (show methT methL t_record_came "escrow/record.write" = some record_came_write.n by kernel_rfl) h
theorem inv_record_revoked_apply {v : AVal} {args : List AVal} {G : Heap} {K : AVal → Heap → Prop} (h : ACalls P record_revoked_apply.n (v :: args) G K) : aInvoke cx (.iface t_record_revoked v) "escrow/record.apply" args G K := inv_of (show methT methL t_record_revoked "escrow/record.apply" = some record_revoked_apply.n by kernel_rfl) h
theorem inv_record_revoked_record {v : AVal} {args : List AVal} {G : Heap} {K : AVal → Heap → Prop} (h : ACalls P record_revoked_record.n (v :: args) G K) : aInvoke cx (.iface t_record_revoked v) "escrow/record.record" args G K := inv_of (show methT methL t_record_revoked "escrow/record.record" = some record_revoked_record.n by kernel_rfl) h
theorem inv_record_revoked_valid {v : AVal} {args : List AVal} {G : Heap} {K : AVal → Heap → Prop} (h : ACalls P record_revoked_valid.n (v :: args) G K) : aInvoke cx (.iface t_record_revoked v) "escrow/record.valid" args G K := inv_of (show methT methL t_record_revoked "escrow/record.valid" = some record_revoked_valid.n by kernel_rfl) h
theorem inv_record_revoked_write {v : AVal} {args : List AVal} {G : Heap} {K : AVal → Heap → Prop} (h : ACalls P record_revoked_write.n (v :: args) G K) : aInvoke cx (.iface t_record_revoked v) "escrow/record.write" args G K := inv_of (show methT methL t_record_revoked "escrow/record.write" = some record_revoked_write.n by kernel_rfl) h
theorem inv_record_failed_apply {v : AVal} {args : List AVal} {G : Heap} {K : AVal → Heap → Prop} (h : ACalls P record_failed_apply.n (v :: args) G K) : aInvoke cx (.iface t_record_failed v) "escrow/record.apply" args G K := inv_of (show methT methL t_record_failed "escrow/record.apply" = some record_failed_apply.n by kernel_rfl) h
theorem inv_record_failed_record {v : AVal} {args : List AVal} {G : Heap} {K : AVal → Heap → Prop} (h : ACalls P record_failed_record.n (v :: args) G K) : aInvoke cx (.iface t_record_failed v) "escrow/record.record" args G K := inv_of (show methT methL t_record_failed "escrow/record.record" = some record_failed_record.n by kernel_rfl) h
theorem inv_record_failed_valid {v : AVal} {args : List AVal} {G : Heap} {K : AVal → Heap → Prop} (h : ACalls P record_failed_valid.n (v :: args) G K) : aInvoke cx (.iface t_record_failed v) "escrow/record.valid" args G K := inv_of (show methT methL t_record_failed "escrow/record.valid" = some record_failed_valid.n by kernel_rfl) h
theorem inv_record_failed_write {v : AVal} {args : List AVal} {G : Heap} {K : AVal → Heap → Prop} (h : ACalls P record_failed_write.n (v :: args) G K) : aInvoke cx (.iface t_record_failed v) "escrow/record.write" args G K := inv_of (show methT methL t_record_failed "escrow/record.write" = some record_failed_write.n by kernel_rfl) h
theorem inv_record_closed_apply {v : AVal} {args : List AVal} {G : Heap} {K : AVal → Heap → Prop} (h : ACalls P record_closed_apply.n (v :: args) G K) : aInvoke cx (.iface t_record_closed v) "escrow/record.apply" args G K := inv_of (show methT methL t_record_closed "escrow/record.apply" = some record_closed_apply.n by kernel_rfl) h
theorem inv_record_closed_record {v : AVal} {args : List AVal} {G : Heap} {K : AVal → Heap → Prop} (h : ACalls P record_closed_record.n (v :: args) G K) : aInvoke cx (.iface t_record_closed v) "escrow/record.record" args G K := inv_of (show methT methL t_record_closed "escrow/record.record" = some record_closed_record.n by kernel_rfl) h
theorem inv_record_closed_valid {v : AVal} {args : List AVal} {G : Heap} {K : AVal → Heap → Prop} (h : ACalls P record_closed_valid.n (v :: args) G K) : aInvoke cx (.iface t_record_closed v) "escrow/record.valid" args G K := inv_of (show methT methL t_record_closed "escrow/record.valid" = some record_closed_valid.n by kernel_rfl) h
theorem inv_record_closed_write {v : AVal} {args : List AVal} {G : Heap} {K : AVal → Heap → Prop} (h : ACalls P record_closed_write.n (v :: args) G K) : aInvoke cx (.iface t_record_closed v) "escrow/record.write" args G K := inv_of (show methT methL t_record_closed "escrow/record.write" = some record_closed_write.n by kernel_rfl) h
end Go.Esc.M
