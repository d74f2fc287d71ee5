/- Printed by gen.py (own work): the types of the program Ytmhhddpkhfohcaa, their table. -/
import Derived.Test.YtmhhddpkhfohcaaProg
import Derived.Test.YtmhhddpkhfohcaaER
set_option linter.unusedSimpArgs false
set_option linter.unusedVariables false
namespace Go.Esc.M
open Go Go.Esc Go.Proofs

def t_int64 : TypeId := 2
def t_int : TypeId := 3
def t_bool : TypeId := 4
def t_uint8 : TypeId := 5
def t_string : TypeId := 9
def t_api_Hash : TypeId := 23
def t_api_Update : TypeId := 25
def t_api_Errno : TypeId := 27
def t_sl_api_Update : TypeId := 34
def t_sl_escrowlaw12_Word : TypeId := 42
def t_ar2_api_Update : TypeId := 43
def t_escrowlaw12_Word : TypeId := 45
def t_ar6_api_Update : TypeId := 50
def t_ar6_int : TypeId := 51
def t_ar12_api_Update : TypeId := 52
def t_uint16 : TypeId := 58
def t_uint64 : TypeId := 64
def t_sl_uint8 : TypeId := 65
def t_uint : TypeId := 82
def t_cursor_Writer : TypeId := 84
def t_cursor_Reader : TypeId := 89
def t_sl_string : TypeId := 93
def t_uint32 : TypeId := 95
def t_ar8_uint32 : TypeId := 96
def t_ar64_uint32 : TypeId := 97
def z_int64 : AVal := .int .i64 0
def ti_int64 : TI := ⟨.int .i64, 1, 8, z_int64⟩
def z_int : AVal := .int .i64 0
def ti_int : TI := ⟨.int .i64, 1, 8, z_int⟩
def z_bool : AVal := .bool false
def ti_bool : TI := ⟨.bool, 1, 1, z_bool⟩
def z_uint8 : AVal := .int .u8 0
def ti_uint8 : TI := ⟨.int .u8, 1, 1, z_uint8⟩
def z_string : AVal := .str []
def ti_string : TI := ⟨.string, 1, 16, z_string⟩
def z_api_Hash : AVal := .agg (List.replicate 32 (.int .u8 0))
def ti_api_Hash : TI := ⟨.array 32 t_uint8, 32, 32, z_api_Hash⟩
def z_api_Update : AVal := .agg [.int .i64 0, .int .i64 0, .int .i64 0, .agg (List.replicate 32 (.int .u8 0)), .str []]
def ti_api_Update : TI := ⟨.struct [(t_int, 0), (t_int64, 1), (t_int64, 2), (t_api_Hash, 3), (t_string, 35)], 36, 72, z_api_Update⟩
def z_api_Errno : AVal := .int .i64 0
def ti_api_Errno : TI := ⟨.int .i64, 1, 8, z_api_Errno⟩
def z_sl_api_Update : AVal := .nilSlice
def ti_sl_api_Update : TI := ⟨.slice t_api_Update, 1, 24, z_sl_api_Update⟩
def z_sl_escrowlaw12_Word : AVal := .nilSlice
def ti_sl_escrowlaw12_Word : TI := ⟨.slice t_escrowlaw12_Word, 1, 24, z_sl_escrowlaw12_Word⟩
def z_ar2_api_Update : AVal := .agg (List.replicate 2 (.nilSlice))
def ti_ar2_api_Update : TI := ⟨.array 2 t_sl_api_Update, 2, 48, z_ar2_api_Update⟩
def z_escrowlaw12_Word : AVal := .agg [.bool false, .agg [.int .i64 0, .int .i64 0, .int .i64 0, .agg (List.replicate 32 (.int .u8 0)), .str []], .int .i64 0, .bool false]
def ti_escrowlaw12_Word : TI := ⟨.struct [(t_bool, 0), (t_api_Update, 1), (t_int, 37), (t_bool, 38)], 39, 96, z_escrowlaw12_Word⟩
def z_ar6_api_Update : AVal := .agg (List.replicate 6 (.agg [.int .i64 0, .int .i64 0, .int .i64 0, .agg (List.replicate 32 (.int .u8 0)), .str []]))
def ti_ar6_api_Update : TI := ⟨.array 6 t_api_Update, 216, 432, z_ar6_api_Update⟩
def z_ar6_int : AVal := .agg (List.replicate 6 (.int .i64 0))
def ti_ar6_int : TI := ⟨.array 6 t_int, 6, 48, z_ar6_int⟩
def z_ar12_api_Update : AVal := .agg (List.replicate 12 (.agg [.int .i64 0, .int .i64 0, .int .i64 0, .agg (List.replicate 32 (.int .u8 0)), .str []]))
def ti_ar12_api_Update : TI := ⟨.array 12 t_api_Update, 432, 864, z_ar12_api_Update⟩
def z_uint16 : AVal := .int .u16 0
def ti_uint16 : TI := ⟨.int .u16, 1, 2, z_uint16⟩
def z_uint64 : AVal := .int .u64 0
def ti_uint64 : TI := ⟨.int .u64, 1, 8, z_uint64⟩
def z_sl_uint8 : AVal := .nilSlice
def ti_sl_uint8 : TI := ⟨.slice t_uint8, 1, 24, z_sl_uint8⟩
def z_uint : AVal := .int .u64 0
def ti_uint : TI := ⟨.int .u64, 1, 8, z_uint⟩
def z_cursor_Writer : AVal := .agg [.nilSlice, .int .i64 0]
def ti_cursor_Writer : TI := ⟨.struct [(t_sl_uint8, 0), (t_api_Errno, 1)], 2, 32, z_cursor_Writer⟩
def z_cursor_Reader : AVal := .agg [.str [], .int .i64 0]
def ti_cursor_Reader : TI := ⟨.struct [(t_string, 0), (t_api_Errno, 1)], 2, 24, z_cursor_Reader⟩
def z_sl_string : AVal := .nilSlice
def ti_sl_string : TI := ⟨.slice t_string, 1, 24, z_sl_string⟩
def z_uint32 : AVal := .int .u32 0
def ti_uint32 : TI := ⟨.int .u32, 1, 4, z_uint32⟩
def z_ar8_uint32 : AVal := .agg (List.replicate 8 (.int .u32 0))
def ti_ar8_uint32 : TI := ⟨.array 8 t_uint32, 8, 32, z_ar8_uint32⟩
def z_ar64_uint32 : AVal := .agg (List.replicate 64 (.int .u32 0))
def ti_ar64_uint32 : TI := ⟨.array 64 t_uint32, 64, 256, z_ar64_uint32⟩
noncomputable abbrev P : Program := Try.prog
theorem tyOk_int64 : TyOk P 2 ti_int64 := TyOk.mk' (by kernel_rfl) (by kernel_rfl) (by kernel_rfl) (by kernel_rfl)
theorem tyOk_int : TyOk P 3 ti_int := TyOk.mk' (by kernel_rfl) (by kernel_rfl) (by kernel_rfl) (by kernel_rfl)
theorem tyOk_bool : TyOk P 4 ti_bool := TyOk.mk' (by kernel_rfl) (by kernel_rfl) (by kernel_rfl) (by kernel_rfl)
theorem tyOk_uint8 : TyOk P 5 ti_uint8 := TyOk.mk' (by kernel_rfl) (by kernel_rfl) (by kernel_rfl) (by kernel_rfl)
theorem tyOk_string : TyOk P 9 ti_string := TyOk.mk' (by kernel_rfl) (by kernel_rfl) (by kernel_rfl) (by kernel_rfl)
theorem tyOk_api_Hash : TyOk P 23 ti_api_Hash := TyOk.mk' (by kernel_rfl) (by kernel_rfl) (by kernel_rfl) (by kernel_rfl)
theorem tyOk_api_Update : TyOk P 25 ti_api_Update := TyOk.mk' (by kernel_rfl) (by kernel_rfl) (by kernel_rfl) (by kernel_rfl)
theorem tyOk_api_Errno : TyOk P 27 ti_api_Errno := TyOk.mk' (by kernel_rfl) (by kernel_rfl) (by kernel_rfl) (by kernel_rfl)
theorem tyOk_sl_api_Update : TyOk P 34 ti_sl_api_Update := TyOk.mk' (by kernel_rfl) (by kernel_rfl) (by kernel_rfl) (by kernel_rfl)
theorem tyOk_sl_escrowlaw12_Word : TyOk P 42 ti_sl_escrowlaw12_Word := TyOk.mk' (by kernel_rfl) (by kernel_rfl) (by kernel_rfl) (by kernel_rfl)
theorem tyOk_ar2_api_Update : TyOk P 43 ti_ar2_api_Update := TyOk.mk' (by kernel_rfl) (by kernel_rfl) (by kernel_rfl) (by kernel_rfl)
theorem tyOk_escrowlaw12_Word : TyOk P 45 ti_escrowlaw12_Word := TyOk.mk' (by kernel_rfl) (by kernel_rfl) (by kernel_rfl) (by kernel_rfl)
theorem tyOk_ar6_api_Update : TyOk P 50 ti_ar6_api_Update := TyOk.mk' (by kernel_rfl) (by kernel_rfl) (by kernel_rfl) (by kernel_rfl)
theorem tyOk_ar6_int : TyOk P 51 ti_ar6_int := TyOk.mk' (by kernel_rfl) (by kernel_rfl) (by kernel_rfl) (by kernel_rfl)
theorem tyOk_ar12_api_Update : TyOk P 52 ti_ar12_api_Update := TyOk.mk' (by kernel_rfl) (by kernel_rfl) (by kernel_rfl) (by kernel_rfl)
theorem tyOk_uint16 : TyOk P 58 ti_uint16 := TyOk.mk' (by kernel_rfl) (by kernel_rfl) (by kernel_rfl) (by kernel_rfl)
theorem tyOk_uint64 : TyOk P 64 ti_uint64 := TyOk.mk' (by kernel_rfl) (by kernel_rfl) (by kernel_rfl) (by kernel_rfl)
theorem tyOk_sl_uint8 : TyOk P 65 ti_sl_uint8 := TyOk.mk' (by kernel_rfl) (by kernel_rfl) (by kernel_rfl) (by kernel_rfl)
theorem tyOk_uint : TyOk P 82 ti_uint := TyOk.mk' (by kernel_rfl) (by kernel_rfl) (by kernel_rfl) (by kernel_rfl)
theorem tyOk_cursor_Writer : TyOk P 84 ti_cursor_Writer := TyOk.mk' (by kernel_rfl) (by kernel_rfl) (by kernel_rfl) (by kernel_rfl)
theorem tyOk_cursor_Reader : TyOk P 89 ti_cursor_Reader := TyOk.mk' (by kernel_rfl) (by kernel_rfl) (by kernel_rfl) (by kernel_rfl)
theorem tyOk_sl_string : TyOk P 93 ti_sl_string := TyOk.mk' (by kernel_rfl) (by kernel_rfl) (by kernel_rfl) (by kernel_rfl)
theorem tyOk_uint32 : TyOk P 95 ti_uint32 := TyOk.mk' (by kernel_rfl) (by kernel_rfl) (by kernel_rfl) (by kernel_rfl)
theorem tyOk_ar8_uint32 : TyOk P 96 ti_ar8_uint32 := TyOk.mk' (by kernel_rfl) (by kernel_rfl) (by kernel_rfl) (by kernel_rfl)
theorem tyOk_ar64_uint32 : TyOk P 97 ti_ar64_uint32 := TyOk.mk' (by kernel_rfl) (by kernel_rfl) (by kernel_rfl) (by kernel_rfl)
def T : Tbl := (Tbl.cons 2 ti_int64 (Tbl.cons 3 ti_int (Tbl.cons 4 ti_bool (Tbl.cons 5 ti_uint8 (Tbl.cons 9 ti_string (Tbl.cons 23 ti_api_Hash (Tbl.cons 25 ti_api_Update (Tbl.cons 27 ti_api_Errno (Tbl.cons 34 ti_sl_api_Update (Tbl.cons 42 ti_sl_escrowlaw12_Word (Tbl.cons 43 ti_ar2_api_Update (Tbl.cons 45 ti_escrowlaw12_Word (Tbl.cons 50 ti_ar6_api_Update (Tbl.cons 51 ti_ar6_int (Tbl.cons 52 ti_ar12_api_Update (Tbl.cons 58 ti_uint16 (Tbl.cons 64 ti_uint64 (Tbl.cons 65 ti_sl_uint8 (Tbl.cons 82 ti_uint (Tbl.cons 84 ti_cursor_Writer (Tbl.cons 89 ti_cursor_Reader (Tbl.cons 93 ti_sl_string (Tbl.cons 95 ti_uint32 (Tbl.cons 96 ti_ar8_uint32 (Tbl.cons 97 ti_ar64_uint32 Tbl.nil)))))))))))))))))))))))))
theorem tblOk : TblOk P T := (TblOk.cons tyOk_int64 (TblOk.cons tyOk_int (TblOk.cons tyOk_bool (TblOk.cons tyOk_uint8 (TblOk.cons tyOk_string (TblOk.cons tyOk_api_Hash (TblOk.cons tyOk_api_Update (TblOk.cons tyOk_api_Errno (TblOk.cons tyOk_sl_api_Update (TblOk.cons tyOk_sl_escrowlaw12_Word (TblOk.cons tyOk_ar2_api_Update (TblOk.cons tyOk_escrowlaw12_Word (TblOk.cons tyOk_ar6_api_Update (TblOk.cons tyOk_ar6_int (TblOk.cons tyOk_ar12_api_Update (TblOk.cons tyOk_uint16 (TblOk.cons tyOk_uint64 (TblOk.cons tyOk_sl_uint8 (TblOk.cons tyOk_uint (TblOk.cons tyOk_cursor_Writer (TblOk.cons tyOk_cursor_Reader (TblOk.cons tyOk_sl_string (TblOk.cons tyOk_uint32 (TblOk.cons tyOk_ar8_uint32 (TblOk.cons tyOk_ar64_uint32 TblOk.nil)))))))))))))))))))))))))
theorem T_int64 : T t_int64 = some ti_int64 := rfl
theorem T_int : T t_int = some ti_int := rfl
theorem T_bool : T t_bool = some ti_bool := rfl
theorem T_uint8 : T t_uint8 = some ti_uint8 := rfl
theorem T_string : T t_string = some ti_string := rfl
theorem T_api_Hash : T t_api_Hash = some ti_api_Hash := rfl
theorem T_api_Update : T t_api_Update = some ti_api_Update := rfl
theorem T_api_Errno : T t_api_Errno = some ti_api_Errno := rfl
theorem T_sl_api_Update : T t_sl_api_Update = some ti_sl_api_Update := rfl
theorem T_sl_escrowlaw12_Word : T t_sl_escrowlaw12_Word = some ti_sl_escrowlaw12_Word := rfl
theorem T_ar2_api_Update : T t_ar2_api_Update = some ti_ar2_api_Update := rfl
theorem T_escrowlaw12_Word : T t_escrowlaw12_Word = some ti_escrowlaw12_Word := rfl
theorem T_ar6_api_Update : T t_ar6_api_Update = some ti_ar6_api_Update := rfl
theorem T_ar6_int : T t_ar6_int = some ti_ar6_int := rfl
theorem T_ar12_api_Update : T t_ar12_api_Update = some ti_ar12_api_Update := rfl
theorem T_uint16 : T t_uint16 = some ti_uint16 := rfl
theorem T_uint64 : T t_uint64 = some ti_uint64 := rfl
theorem T_sl_uint8 : T t_sl_uint8 = some ti_sl_uint8 := rfl
theorem T_uint : T t_uint = some ti_uint := rfl
theorem T_cursor_Writer : T t_cursor_Writer = some ti_cursor_Writer := rfl
theorem T_cursor_Reader : T t_cursor_Reader = some ti_cursor_Reader := rfl
theorem T_sl_string : T t_sl_string = some ti_sl_string := rfl
theorem T_uint32 : T t_uint32 = some ti_uint32 := rfl
theorem T_ar8_uint32 : T t_ar8_uint32 = some ti_ar8_uint32 := rfl
theorem T_ar64_uint32 : T t_ar64_uint32 = some ti_ar64_uint32 := rfl
noncomputable def cx : Cx := ⟨P, T, fun _ _ => none⟩
theorem cxOk : CxOk cx := ⟨tblOk, fun _ _ _ h => by cases h⟩
theorem mixed : P.follows .mixedOrders = true := by kernel_rfl
theorem drawsOk_of {c : Code} {an : Ann} (h : drawB cx c an = true) (_ : (0 : Nat) = 0) : drawsOk cx c an := drawsOk_of_check cxOk mixed c an h
def update_Valid.n : FuncId := 13
noncomputable def update_Valid.body : Code := (Try.f13.body).getD .skip
def cursor_New.n : FuncId := 27
noncomputable def cursor_New.body : Code := (Try.f27.body).getD .skip
def cursor_lay_uint8.n : FuncId := 52
noncomputable def cursor_lay_uint8.body : Code := (Try.f52.body).getD .skip
def cursor_Writer_U8.n : FuncId := 28
noncomputable def cursor_Writer_U8.body : Code := (Try.f28.body).getD .skip
def cursor_lay_uint16.n : FuncId := 53
noncomputable def cursor_lay_uint16.body : Code := (Try.f53.body).getD .skip
def cursor_Writer_U16.n : FuncId := 29
noncomputable def cursor_Writer_U16.body : Code := (Try.f29.body).getD .skip
def cursor_lay_uint64.n : FuncId := 54
noncomputable def cursor_lay_uint64.body : Code := (Try.f54.body).getD .skip
def cursor_Writer_I64.n : FuncId := 30
noncomputable def cursor_Writer_I64.body : Code := (Try.f30.body).getD .skip
def cursor_Writer_Raw.n : FuncId := 55
noncomputable def cursor_Writer_Raw.body : Code := (Try.f55.body).getD .skip
def cursor_Writer_Hash.n : FuncId := 31
noncomputable def cursor_Writer_Hash.body : Code := (Try.f31.body).getD .skip
def cursor_Writer_Text.n : FuncId := 32
noncomputable def cursor_Writer_Text.body : Code := (Try.f32.body).getD .skip
def cursor_Writer_Out.n : FuncId := 33
noncomputable def cursor_Writer_Out.body : Code := (Try.f33.body).getD .skip
def update_Write.n : FuncId := 9
noncomputable def update_Write.body : Code := (Try.f9.body).getD .skip
def cursor_Open.n : FuncId := 35
noncomputable def cursor_Open.body : Code := (Try.f35.body).getD .skip
def cursor_value_uint8.n : FuncId := 56
noncomputable def cursor_value_uint8.body : Code := (Try.f56.body).getD .skip
def cursor_Reader_breaks.n : FuncId := 60
noncomputable def cursor_Reader_breaks.body : Code := (Try.f60.body).getD .skip
def cursor_Reader_take.n : FuncId := 57
noncomputable def cursor_Reader_take.body : Code := (Try.f57.body).getD .skip
def cursor_Reader_U8.n : FuncId := 36
noncomputable def cursor_Reader_U8.body : Code := (Try.f36.body).getD .skip
def cursor_Reader_Err.n : FuncId := 37
noncomputable def cursor_Reader_Err.body : Code := (Try.f37.body).getD .skip
def cursor_value_uint16.n : FuncId := 58
noncomputable def cursor_value_uint16.body : Code := (Try.f58.body).getD .skip
def cursor_Reader_U16.n : FuncId := 38
noncomputable def cursor_Reader_U16.body : Code := (Try.f38.body).getD .skip
def cursor_value_uint64.n : FuncId := 59
noncomputable def cursor_value_uint64.body : Code := (Try.f59.body).getD .skip
def cursor_Reader_I64.n : FuncId := 39
noncomputable def cursor_Reader_I64.body : Code := (Try.f39.body).getD .skip
def cursor_Reader_Hash.n : FuncId := 40
noncomputable def cursor_Reader_Hash.body : Code := (Try.f40.body).getD .skip
def cursor_Reader_Text.n : FuncId := 41
noncomputable def cursor_Reader_Text.body : Code := (Try.f41.body).getD .skip
def update_fault.n : FuncId := 42
noncomputable def update_fault.body : Code := (Try.f42.body).getD .skip
def cursor_Reader_Rest.n : FuncId := 43
noncomputable def cursor_Reader_Rest.body : Code := (Try.f43.body).getD .skip
def update_Read.n : FuncId := 11
noncomputable def update_Read.body : Code := (Try.f11.body).getD .skip
def update_first.n : FuncId := 51
noncomputable def update_first.body : Code := (Try.f51.body).getD .skip
def update_Find.n : FuncId := 20
noncomputable def update_Find.body : Code := (Try.f20.body).getD .skip
def update_Removal.n : FuncId := 21
noncomputable def update_Removal.body : Code := (Try.f21.body).getD .skip
def update_adds.n : FuncId := 49
noncomputable def update_adds.body : Code := (Try.f49.body).getD .skip
def hash_constants.n : FuncId := 63
noncomputable def hash_constants.body : Code := (Try.f63.body).getD .skip
def bits_RotateLeft32.n : FuncId := 71
noncomputable def bits_RotateLeft32.body : Code := (Try.f71.body).getD .skip
def hash_schedule.n : FuncId := 70
noncomputable def hash_schedule.body : Code := (Try.f70.body).getD .skip
def hash_turned.n : FuncId := 64
noncomputable def hash_turned.body : Code := (Try.f64.body).getD .skip
def hash_Sum.n : FuncId := 50
noncomputable def hash_Sum.body : Code := (Try.f50.body).getD .skip
def update_Next.n : FuncId := 19
noncomputable def update_Next.body : Code := (Try.f19.body).getD .skip
def escrowlaw12_head.n : FuncId := 8
noncomputable def escrowlaw12_head.body : Code := (Try.f8.body).getD .skip
def escrowref12_Valid.n : FuncId := 14
noncomputable def escrowref12_Valid.body : Code := (Try.f14.body).getD .skip
def escrowref03_Bytes.n : FuncId := 34
noncomputable def escrowref03_Bytes.body : Code := (Try.f34.body).getD .skip
def escrowref12_Write.n : FuncId := 10
noncomputable def escrowref12_Write.body : Code := (Try.f10.body).getD .skip
def escrowref03_Number.n : FuncId := 45
noncomputable def escrowref03_Number.body : Code := (Try.f45.body).getD .skip
def escrowref12_size.n : FuncId := 44
noncomputable def escrowref12_size.body : Code := (Try.f44.body).getD .skip
def escrowref12_hash.n : FuncId := 46
noncomputable def escrowref12_hash.body : Code := (Try.f46.body).getD .skip
def escrowref12_Read.n : FuncId := 12
noncomputable def escrowref12_Read.body : Code := (Try.f12.body).getD .skip
def escrowlaw12_UpdateBytes.n : FuncId := 3
noncomputable def escrowlaw12_UpdateBytes.body : Code := (Try.f3.body).getD .skip
def escrowref12_Find.n : FuncId := 16
noncomputable def escrowref12_Find.body : Code := (Try.f16.body).getD .skip
def escrowref12_Removal.n : FuncId := 17
noncomputable def escrowref12_Removal.body : Code := (Try.f17.body).getD .skip
def escrowref12_Adds.n : FuncId := 47
noncomputable def escrowref12_Adds.body : Code := (Try.f47.body).getD .skip
def escrowref02_padded.n : FuncId := 65
noncomputable def escrowref02_padded.body : Code := (Try.f65.body).getD .skip
def escrowref02_rounds.n : FuncId := 72
noncomputable def escrowref02_rounds.body : Code := (Try.f72.body).getD .skip
def escrowref02_rot.n : FuncId := 73
noncomputable def escrowref02_rot.body : Code := (Try.f73.body).getD .skip
def escrowref02_block.n : FuncId := 66
noncomputable def escrowref02_block.body : Code := (Try.f66.body).getD .skip
def escrowref02_One.n : FuncId := 61
noncomputable def escrowref02_One.body : Code := (Try.f61.body).getD .skip
def escrowref02_Sum.n : FuncId := 48
noncomputable def escrowref02_Sum.body : Code := (Try.f48.body).getD .skip
def escrowref12_Next.n : FuncId := 15
noncomputable def escrowref12_Next.body : Code := (Try.f15.body).getD .skip
def escrowlaw12_lent.n : FuncId := 18
noncomputable def escrowlaw12_lent.body : Code := (Try.f18.body).getD .skip
def escrowref12_Same.n : FuncId := 22
noncomputable def escrowref12_Same.body : Code := (Try.f22.body).getD .skip
def escrowlaw12_UpdateNexts.n : FuncId := 4
noncomputable def escrowlaw12_UpdateNexts.body : Code := (Try.f4.body).getD .skip
def escrowlaw12_UpdateBack.n : FuncId := 5
noncomputable def escrowlaw12_UpdateBack.body : Code := (Try.f5.body).getD .skip
def escrowlaw12_sum.n : FuncId := 23
noncomputable def escrowlaw12_sum.body : Code := (Try.f23.body).getD .skip
def escrowlaw12_preimage.n : FuncId := 24
noncomputable def escrowlaw12_preimage.body : Code := (Try.f24.body).getD .skip
def escrowlaw12_may.n : FuncId := 25
noncomputable def escrowlaw12_may.body : Code := (Try.f25.body).getD .skip
def escrowlaw12_sound.n : FuncId := 26
noncomputable def escrowlaw12_sound.body : Code := (Try.f26.body).getD .skip
def escrowlaw12_UpdateGrows.n : FuncId := 6
noncomputable def escrowlaw12_UpdateGrows.body : Code := (Try.f6.body).getD .skip
def escrowlaw12_UpdateLimits.n : FuncId := 7
noncomputable def escrowlaw12_UpdateLimits.body : Code := (Try.f7.body).getD .skip
def strings_Join.n : FuncId := 62
end Go.Esc.M
