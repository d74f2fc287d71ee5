/- Printed by gen.py (own work): the types of the program Ythaockalmnlceaa, their table. -/
import Derived.Test.YthaockalmnlceaaProg
import Derived.Test.YthaockalmnlceaaER
set_option linter.unusedSimpArgs false
set_option linter.unusedVariables false
namespace Go.Esc.M
open Go Go.Esc Go.Proofs

def t_int64 : TypeId := 2
def t_int : TypeId := 3
def t_bool : TypeId := 4
def t_uint8 : TypeId := 5
def t_string : TypeId := 9
def t_api_Hash : TypeId := 23
def t_api_Message : TypeId := 25
def t_api_Update : TypeId := 27
def t_api_Errno : TypeId := 29
def t_ar4_api_Message : TypeId := 43
def t_sl_uint8 : TypeId := 45
def t_ar4_string : TypeId := 46
def t_ar5_api_Message : TypeId := 47
def t_uint64 : TypeId := 60
def t_pt_cursor_Reader : TypeId := 61
def t_msg_reader : TypeId := 64
def t_uint16 : TypeId := 73
def t_uint : TypeId := 75
def t_cursor_Writer : TypeId := 77
def t_cursor_Reader : TypeId := 81
def z_int64 : AVal := .int .i64 0
def ti_int64 : TI := ⟨.int .i64, 1, 8, z_int64⟩
def z_int : AVal := .int .i64 0
def ti_int : TI := ⟨.int .i64, 1, 8, z_int⟩
def z_bool : AVal := .bool false
def ti_bool : TI := ⟨.bool, 1, 1, z_bool⟩
def z_uint8 : AVal := .int .u8 0
def ti_uint8 : TI := ⟨.int .u8, 1, 1, z_uint8⟩
def z_string : AVal := .str []
def ti_string : TI := ⟨.string, 1, 16, z_string⟩
def z_api_Hash : AVal := .agg (List.replicate 32 (.int .u8 0))
def ti_api_Hash : TI := ⟨.array 32 t_uint8, 32, 32, z_api_Hash⟩
def z_api_Message : AVal := .agg [.int .i64 0, .int .i64 0, .int .i64 0, .int .i64 0, .int .i64 0, .agg (List.replicate 32 (.int .u8 0)), .agg (List.replicate 32 (.int .u8 0)), .str []]
def ti_api_Message : TI := ⟨.struct [(t_int, 0), (t_int64, 1), (t_int64, 2), (t_int64, 3), (t_int64, 4), (t_api_Hash, 5), (t_api_Hash, 37), (t_string, 69)], 70, 120, z_api_Message⟩
def z_api_Update : AVal := .agg [.int .i64 0, .int .i64 0, .int .i64 0, .agg (List.replicate 32 (.int .u8 0)), .str []]
def ti_api_Update : TI := ⟨.struct [(t_int, 0), (t_int64, 1), (t_int64, 2), (t_api_Hash, 3), (t_string, 35)], 36, 72, z_api_Update⟩
def z_api_Errno : AVal := .int .i64 0
def ti_api_Errno : TI := ⟨.int .i64, 1, 8, z_api_Errno⟩
def z_ar4_api_Message : AVal := .agg (List.replicate 4 (.agg [.int .i64 0, .int .i64 0, .int .i64 0, .int .i64 0, .int .i64 0, .agg (List.replicate 32 (.int .u8 0)), .agg (List.replicate 32 (.int .u8 0)), .str []]))
def ti_ar4_api_Message : TI := ⟨.array 4 t_api_Message, 280, 480, z_ar4_api_Message⟩
def z_sl_uint8 : AVal := .nilSlice
def ti_sl_uint8 : TI := ⟨.slice t_uint8, 1, 24, z_sl_uint8⟩
def z_ar4_string : AVal := .agg (List.replicate 4 (.str []))
def ti_ar4_string : TI := ⟨.array 4 t_string, 4, 64, z_ar4_string⟩
def z_ar5_api_Message : AVal := .agg (List.replicate 5 (.agg [.int .i64 0, .int .i64 0, .int .i64 0, .int .i64 0, .int .i64 0, .agg (List.replicate 32 (.int .u8 0)), .agg (List.replicate 32 (.int .u8 0)), .str []]))
def ti_ar5_api_Message : TI := ⟨.array 5 t_api_Message, 350, 600, z_ar5_api_Message⟩
def z_uint64 : AVal := .int .u64 0
def ti_uint64 : TI := ⟨.int .u64, 1, 8, z_uint64⟩
def z_pt_cursor_Reader : AVal := .nilPtr
def ti_pt_cursor_Reader : TI := ⟨.pointer t_cursor_Reader, 1, 8, z_pt_cursor_Reader⟩
def z_msg_reader : AVal := .agg [.nilPtr]
def ti_msg_reader : TI := ⟨.struct [(t_pt_cursor_Reader, 0)], 1, 8, z_msg_reader⟩
def z_uint16 : AVal := .int .u16 0
def ti_uint16 : TI := ⟨.int .u16, 1, 2, z_uint16⟩
def z_uint : AVal := .int .u64 0
def ti_uint : TI := ⟨.int .u64, 1, 8, z_uint⟩
def z_cursor_Writer : AVal := .agg [.nilSlice, .int .i64 0]
def ti_cursor_Writer : TI := ⟨.struct [(t_sl_uint8, 0), (t_api_Errno, 1)], 2, 32, z_cursor_Writer⟩
def z_cursor_Reader : AVal := .agg [.str [], .int .i64 0]
def ti_cursor_Reader : TI := ⟨.struct [(t_string, 0), (t_api_Errno, 1)], 2, 24, z_cursor_Reader⟩
noncomputable abbrev P : Program := Try.prog
theorem tyOk_int64 : TyOk P 2 ti_int64 := TyOk.mk' (by kernel_rfl) (by kernel_rfl) (by kernel_rfl) (by kernel_rfl)
theorem tyOk_int : TyOk P 3 ti_int := TyOk.mk' (by kernel_rfl) (by kernel_rfl) (by kernel_rfl) (by kernel_rfl)
theorem tyOk_bool : TyOk P 4 ti_bool := TyOk.mk' (by kernel_rfl) (by kernel_rfl) (by kernel_rfl) (by kernel_rfl)
theorem tyOk_uint8 : TyOk P 5 ti_uint8 := TyOk.mk' (by kernel_rfl) (by kernel_rfl) (by kernel_rfl) (by kernel_rfl)
theorem tyOk_string : TyOk P 9 ti_string := TyOk.mk' (by kernel_rfl) (by kernel_rfl) (by kernel_rfl) (by kernel_rfl)
theorem tyOk_api_Hash : TyOk P 23 ti_api_Hash := TyOk.mk' (by kernel_rfl) (by kernel_rfl) (by kernel_rfl) (by kernel_rfl)
theorem tyOk_api_Message : TyOk P 25 ti_api_Message := TyOk.mk' (by kernel_rfl) (by kernel_rfl) (by kernel_rfl) (by kernel_rfl)
theorem tyOk_api_Update : TyOk P 27 ti_api_Update := TyOk.mk' (by kernel_rfl) (by kernel_rfl) (by kernel_rfl) (by kernel_rfl)
theorem tyOk_api_Errno : TyOk P 29 ti_api_Errno := TyOk.mk' (by kernel_rfl) (by kernel_rfl) (by kernel_rfl) (by kernel_rfl)
theorem tyOk_ar4_api_Message : TyOk P 43 ti_ar4_api_Message := TyOk.mk' (by kernel_rfl) (by kernel_rfl) (by kernel_rfl) (by kernel_rfl)
theorem tyOk_sl_uint8 : TyOk P 45 ti_sl_uint8 := TyOk.mk' (by kernel_rfl) (by kernel_rfl) (by kernel_rfl) (by kernel_rfl)
theorem tyOk_ar4_string : TyOk P 46 ti_ar4_string := TyOk.mk' (by kernel_rfl) (by kernel_rfl) (by kernel_rfl) (by kernel_rfl)
theorem tyOk_ar5_api_Message : TyOk P 47 ti_ar5_api_Message := TyOk.mk' (by kernel_rfl) (by kernel_rfl) (by kernel_rfl) (by kernel_rfl)
theorem tyOk_uint64 : TyOk P 60 ti_uint64 := TyOk.mk' (by kernel_rfl) (by kernel_rfl) (by kernel_rfl) (by kernel_rfl)
theorem tyOk_pt_cursor_Reader : TyOk P 61 ti_pt_cursor_Reader := TyOk.mk' (by kernel_rfl) (by kernel_rfl) (by kernel_rfl) (by kernel_rfl)
theorem tyOk_msg_reader : TyOk P 64 ti_msg_reader := TyOk.mk' (by kernel_rfl) (by kernel_rfl) (by kernel_rfl) (by kernel_rfl)
theorem tyOk_uint16 : TyOk P 73 ti_uint16 := TyOk.mk' (by kernel_rfl) (by kernel_rfl) (by kernel_rfl) (by kernel_rfl)
theorem tyOk_uint : TyOk P 75 ti_uint := TyOk.mk' (by kernel_rfl) (by kernel_rfl) (by kernel_rfl) (by kernel_rfl)
theorem tyOk_cursor_Writer : TyOk P 77 ti_cursor_Writer := TyOk.mk' (by kernel_rfl) (by kernel_rfl) (by kernel_rfl) (by kernel_rfl)
theorem tyOk_cursor_Reader : TyOk P 81 ti_cursor_Reader := TyOk.mk' (by kernel_rfl) (by kernel_rfl) (by kernel_rfl) (by kernel_rfl)
def T : Tbl := (Tbl.cons 2 ti_int64 (Tbl.cons 3 ti_int (Tbl.cons 4 ti_bool (Tbl.cons 5 ti_uint8 (Tbl.cons 9 ti_string (Tbl.cons 23 ti_api_Hash (Tbl.cons 25 ti_api_Message (Tbl.cons 27 ti_api_Update (Tbl.cons 29 ti_api_Errno (Tbl.cons 43 ti_ar4_api_Message (Tbl.cons 45 ti_sl_uint8 (Tbl.cons 46 ti_ar4_string (Tbl.cons 47 ti_ar5_api_Message (Tbl.cons 60 ti_uint64 (Tbl.cons 61 ti_pt_cursor_Reader (Tbl.cons 64 ti_msg_reader (Tbl.cons 73 ti_uint16 (Tbl.cons 75 ti_uint (Tbl.cons 77 ti_cursor_Writer (Tbl.cons 81 ti_cursor_Reader Tbl.nil))))))))))))))))))))
theorem tblOk : TblOk P T := (TblOk.cons tyOk_int64 (TblOk.cons tyOk_int (TblOk.cons tyOk_bool (TblOk.cons tyOk_uint8 (TblOk.cons tyOk_string (TblOk.cons tyOk_api_Hash (TblOk.cons tyOk_api_Message (TblOk.cons tyOk_api_Update (TblOk.cons tyOk_api_Errno (TblOk.cons tyOk_ar4_api_Message (TblOk.cons tyOk_sl_uint8 (TblOk.cons tyOk_ar4_string (TblOk.cons tyOk_ar5_api_Message (TblOk.cons tyOk_uint64 (TblOk.cons tyOk_pt_cursor_Reader (TblOk.cons tyOk_msg_reader (TblOk.cons tyOk_uint16 (TblOk.cons tyOk_uint (TblOk.cons tyOk_cursor_Writer (TblOk.cons tyOk_cursor_Reader TblOk.nil))))))))))))))))))))
theorem T_int64 : T t_int64 = some ti_int64 := rfl
theorem T_int : T t_int = some ti_int := rfl
theorem T_bool : T t_bool = some ti_bool := rfl
theorem T_uint8 : T t_uint8 = some ti_uint8 := rfl
theorem T_string : T t_string = some ti_string := rfl
theorem T_api_Hash : T t_api_Hash = some ti_api_Hash := rfl
theorem T_api_Message : T t_api_Message = some ti_api_Message := rfl
theorem T_api_Update : T t_api_Update = some ti_api_Update := rfl
theorem T_api_Errno : T t_api_Errno = some ti_api_Errno := rfl
theorem T_ar4_api_Message : T t_ar4_api_Message = some ti_ar4_api_Message := rfl
theorem T_sl_uint8 : T t_sl_uint8 = some ti_sl_uint8 := rfl
theorem T_ar4_string : T t_ar4_string = some ti_ar4_string := rfl
theorem T_ar5_api_Message : T t_ar5_api_Message = some ti_ar5_api_Message := rfl
theorem T_uint64 : T t_uint64 = some ti_uint64 := rfl
theorem T_pt_cursor_Reader : T t_pt_cursor_Reader = some ti_pt_cursor_Reader := rfl
theorem T_msg_reader : T t_msg_reader = some ti_msg_reader := rfl
theorem T_uint16 : T t_uint16 = some ti_uint16 := rfl
theorem T_uint : T t_uint = some ti_uint := rfl
theorem T_cursor_Writer : T t_cursor_Writer = some ti_cursor_Writer := rfl
theorem T_cursor_Reader : T t_cursor_Reader = some ti_cursor_Reader := rfl
noncomputable def cx : Cx := ⟨P, T, fun _ _ => none⟩
theorem cxOk : CxOk cx := ⟨tblOk, fun _ _ _ h => by cases h⟩
theorem mixed : P.follows .mixedOrders = true := by kernel_rfl
theorem drawsOk_of {c : Code} {an : Ann} (h : drawB cx c an = true) (_ : (0 : Nat) = 0) : drawsOk cx c an := drawsOk_of_check cxOk mixed c an h
def msg_Update.n : FuncId := 12
noncomputable def msg_Update.body : Code := (Try.f12.body).getD .skip
def update_Valid.n : FuncId := 17
noncomputable def update_Valid.body : Code := (Try.f17.body).getD .skip
def cursor_New.n : FuncId := 22
noncomputable def cursor_New.body : Code := (Try.f22.body).getD .skip
def cursor_lay_uint8.n : FuncId := 40
noncomputable def cursor_lay_uint8.body : Code := (Try.f40.body).getD .skip
def cursor_Writer_U8.n : FuncId := 23
noncomputable def cursor_Writer_U8.body : Code := (Try.f23.body).getD .skip
def cursor_lay_uint64.n : FuncId := 41
noncomputable def cursor_lay_uint64.body : Code := (Try.f41.body).getD .skip
def cursor_Writer_I64.n : FuncId := 24
noncomputable def cursor_Writer_I64.body : Code := (Try.f24.body).getD .skip
def cursor_Writer_Raw.n : FuncId := 42
noncomputable def cursor_Writer_Raw.body : Code := (Try.f42.body).getD .skip
def cursor_Writer_Hash.n : FuncId := 25
noncomputable def cursor_Writer_Hash.body : Code := (Try.f25.body).getD .skip
def cursor_Writer_Out.n : FuncId := 26
noncomputable def cursor_Writer_Out.body : Code := (Try.f26.body).getD .skip
def cursor_lay_uint16.n : FuncId := 57
noncomputable def cursor_lay_uint16.body : Code := (Try.f57.body).getD .skip
def cursor_Writer_U16.n : FuncId := 38
noncomputable def cursor_Writer_U16.body : Code := (Try.f38.body).getD .skip
def cursor_Writer_Text.n : FuncId := 39
noncomputable def cursor_Writer_Text.body : Code := (Try.f39.body).getD .skip
def update_Write.n : FuncId := 16
noncomputable def update_Write.body : Code := (Try.f16.body).getD .skip
def msg_Of.n : FuncId := 14
noncomputable def msg_Of.body : Code := (Try.f14.body).getD .skip
def msg_named.n : FuncId := 20
noncomputable def msg_named.body : Code := (Try.f20.body).getD .skip
def msg_right.n : FuncId := 21
noncomputable def msg_right.body : Code := (Try.f21.body).getD .skip
def msg_Write.n : FuncId := 8
noncomputable def msg_Write.body : Code := (Try.f8.body).getD .skip
def cursor_Open.n : FuncId := 30
noncomputable def cursor_Open.body : Code := (Try.f30.body).getD .skip
def cursor_value_uint8.n : FuncId := 45
noncomputable def cursor_value_uint8.body : Code := (Try.f45.body).getD .skip
def cursor_Reader_breaks.n : FuncId := 58
noncomputable def cursor_Reader_breaks.body : Code := (Try.f58.body).getD .skip
def cursor_Reader_take.n : FuncId := 46
noncomputable def cursor_Reader_take.body : Code := (Try.f46.body).getD .skip
def cursor_Reader_U8.n : FuncId := 31
noncomputable def cursor_Reader_U8.body : Code := (Try.f31.body).getD .skip
def cursor_Reader_Err.n : FuncId := 47
noncomputable def cursor_Reader_Err.body : Code := (Try.f47.body).getD .skip
def cursor_value_uint16.n : FuncId := 59
noncomputable def cursor_value_uint16.body : Code := (Try.f59.body).getD .skip
def cursor_Reader_U16.n : FuncId := 48
noncomputable def cursor_Reader_U16.body : Code := (Try.f48.body).getD .skip
def cursor_value_uint64.n : FuncId := 60
noncomputable def cursor_value_uint64.body : Code := (Try.f60.body).getD .skip
def cursor_Reader_I64.n : FuncId := 49
noncomputable def cursor_Reader_I64.body : Code := (Try.f49.body).getD .skip
def cursor_Reader_Hash.n : FuncId := 50
noncomputable def cursor_Reader_Hash.body : Code := (Try.f50.body).getD .skip
def cursor_Reader_Text.n : FuncId := 51
noncomputable def cursor_Reader_Text.body : Code := (Try.f51.body).getD .skip
def update_fault.n : FuncId := 52
noncomputable def update_fault.body : Code := (Try.f52.body).getD .skip
def cursor_Reader_Rest.n : FuncId := 53
noncomputable def cursor_Reader_Rest.body : Code := (Try.f53.body).getD .skip
def update_Read.n : FuncId := 32
noncomputable def update_Read.body : Code := (Try.f32.body).getD .skip
def msg_reader_rest.n : FuncId := 33
noncomputable def msg_reader_rest.body : Code := (Try.f33.body).getD .skip
def cursor_Reader_Done.n : FuncId := 34
noncomputable def cursor_Reader_Done.body : Code := (Try.f34.body).getD .skip
def msg_Read.n : FuncId := 10
noncomputable def msg_Read.body : Code := (Try.f10.body).getD .skip
def escrowlaw16_head.n : FuncId := 7
noncomputable def escrowlaw16_head.body : Code := (Try.f7.body).getD .skip
def escrowref16_Update.n : FuncId := 13
noncomputable def escrowref16_Update.body : Code := (Try.f13.body).getD .skip
def escrowref16_Of.n : FuncId := 15
noncomputable def escrowref16_Of.body : Code := (Try.f15.body).getD .skip
def escrowref12_Valid.n : FuncId := 43
noncomputable def escrowref12_Valid.body : Code := (Try.f43.body).getD .skip
def escrowref16_index.n : FuncId := 44
noncomputable def escrowref16_index.body : Code := (Try.f44.body).getD .skip
def escrowref16_Valid.n : FuncId := 27
noncomputable def escrowref16_Valid.body : Code := (Try.f27.body).getD .skip
def escrowref03_Bytes.n : FuncId := 29
noncomputable def escrowref03_Bytes.body : Code := (Try.f29.body).getD .skip
def escrowref12_Write.n : FuncId := 28
noncomputable def escrowref12_Write.body : Code := (Try.f28.body).getD .skip
def escrowref16_Write.n : FuncId := 9
noncomputable def escrowref16_Write.body : Code := (Try.f9.body).getD .skip
def escrowref03_Number.n : FuncId := 55
noncomputable def escrowref03_Number.body : Code := (Try.f55.body).getD .skip
def escrowref12_size.n : FuncId := 54
noncomputable def escrowref12_size.body : Code := (Try.f54.body).getD .skip
def escrowref12_hash.n : FuncId := 56
noncomputable def escrowref12_hash.body : Code := (Try.f56.body).getD .skip
def escrowref12_Read.n : FuncId := 35
noncomputable def escrowref12_Read.body : Code := (Try.f35.body).getD .skip
def escrowref16_number.n : FuncId := 36
noncomputable def escrowref16_number.body : Code := (Try.f36.body).getD .skip
def escrowref16_hash.n : FuncId := 37
noncomputable def escrowref16_hash.body : Code := (Try.f37.body).getD .skip
def escrowref16_Read.n : FuncId := 11
noncomputable def escrowref16_Read.body : Code := (Try.f11.body).getD .skip
def escrowlaw16_MsgBytes.n : FuncId := 3
noncomputable def escrowlaw16_MsgBytes.body : Code := (Try.f3.body).getD .skip
def escrowlaw16_MsgBack.n : FuncId := 4
noncomputable def escrowlaw16_MsgBack.body : Code := (Try.f4.body).getD .skip
def escrowlaw16_MsgUpdates.n : FuncId := 5
noncomputable def escrowlaw16_MsgUpdates.body : Code := (Try.f5.body).getD .skip
def escrowlaw16_index.n : FuncId := 18
noncomputable def escrowlaw16_index.body : Code := (Try.f18.body).getD .skip
def escrowlaw16_number.n : FuncId := 19
noncomputable def escrowlaw16_number.body : Code := (Try.f19.body).getD .skip
def escrowlaw16_MsgForms.n : FuncId := 6
noncomputable def escrowlaw16_MsgForms.body : Code := (Try.f6.body).getD .skip
end Go.Esc.M
