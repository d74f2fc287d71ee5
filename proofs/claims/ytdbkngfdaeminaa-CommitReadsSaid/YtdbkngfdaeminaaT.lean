/- Printed by gen.py (own work): the types of the program Ytdbkngfdaeminaa, their table. -/
import Derived.Test.YtdbkngfdaeminaaProg
import Derived.Test.YtdbkngfdaeminaaER
set_option linter.unusedSimpArgs false
set_option linter.unusedVariables false
namespace Go.Esc.M
open Go Go.Esc Go.Proofs

def t_int64 : TypeId := 2
def t_int : TypeId := 3
def t_bool : TypeId := 4
def t_uint8 : TypeId := 5
def t_string : TypeId := 9
def t_api_Hash : TypeId := 23
def t_sl_api_Pending : TypeId := 24
def t_api_Ledger : TypeId := 26
def t_api_Errno : TypeId := 28
def t_api_Pending : TypeId := 41
def t_uint16 : TypeId := 49
def t_sl_bool : TypeId := 51
def t_sl_uint8 : TypeId := 52
def t_map_bool_int : TypeId := 64
def t_map_bool_int64 : TypeId := 65
def t_cursor_Writer : TypeId := 67
def t_uint64 : TypeId := 70
def t_cursor_Reader : TypeId := 75
def z_int64 : AVal := .int .i64 0
def ti_int64 : TI := ⟨.int .i64, 1, 8, z_int64⟩
def z_int : AVal := .int .i64 0
def ti_int : TI := ⟨.int .i64, 1, 8, z_int⟩
def z_bool : AVal := .bool false
def ti_bool : TI := ⟨.bool, 1, 1, z_bool⟩
def z_uint8 : AVal := .int .u8 0
def ti_uint8 : TI := ⟨.int .u8, 1, 1, z_uint8⟩
def z_string : AVal := .str []
def ti_string : TI := ⟨.string, 1, 16, z_string⟩
def z_api_Hash : AVal := .agg (List.replicate 32 (.int .u8 0))
def ti_api_Hash : TI := ⟨.array 32 t_uint8, 32, 32, z_api_Hash⟩
def z_sl_api_Pending : AVal := .nilSlice
def ti_sl_api_Pending : TI := ⟨.slice t_api_Pending, 1, 24, z_sl_api_Pending⟩
def z_api_Ledger : AVal := .agg [.int .i64 0, .int .i64 0, .nilSlice]
def ti_api_Ledger : TI := ⟨.struct [(t_int64, 0), (t_int64, 1), (t_sl_api_Pending, 2)], 3, 40, z_api_Ledger⟩
def z_api_Errno : AVal := .int .i64 0
def ti_api_Errno : TI := ⟨.int .i64, 1, 8, z_api_Errno⟩
def z_api_Pending : AVal := .agg [.bool false, .int .i64 0, .int .i64 0, .agg (List.replicate 32 (.int .u8 0))]
def ti_api_Pending : TI := ⟨.struct [(t_bool, 0), (t_int64, 1), (t_int64, 2), (t_api_Hash, 3)], 35, 56, z_api_Pending⟩
def z_uint16 : AVal := .int .u16 0
def ti_uint16 : TI := ⟨.int .u16, 1, 2, z_uint16⟩
def z_sl_bool : AVal := .nilSlice
def ti_sl_bool : TI := ⟨.slice t_bool, 1, 24, z_sl_bool⟩
def z_sl_uint8 : AVal := .nilSlice
def ti_sl_uint8 : TI := ⟨.slice t_uint8, 1, 24, z_sl_uint8⟩
def z_map_bool_int : AVal := .nilMap
def ti_map_bool_int : TI := ⟨.map t_bool t_int, 1, 8, z_map_bool_int⟩
def z_map_bool_int64 : AVal := .nilMap
def ti_map_bool_int64 : TI := ⟨.map t_bool t_int64, 1, 8, z_map_bool_int64⟩
def z_cursor_Writer : AVal := .agg [.nilSlice, .int .i64 0]
def ti_cursor_Writer : TI := ⟨.struct [(t_sl_uint8, 0), (t_api_Errno, 1)], 2, 32, z_cursor_Writer⟩
def z_uint64 : AVal := .int .u64 0
def ti_uint64 : TI := ⟨.int .u64, 1, 8, z_uint64⟩
def z_cursor_Reader : AVal := .agg [.str [], .int .i64 0]
def ti_cursor_Reader : TI := ⟨.struct [(t_string, 0), (t_api_Errno, 1)], 2, 24, z_cursor_Reader⟩
noncomputable abbrev P : Program := Try.prog
theorem tyOk_int64 : TyOk P 2 ti_int64 := TyOk.mk' (by kernel_rfl) (by kernel_rfl) (by kernel_rfl) (by kernel_rfl)
theorem tyOk_int : TyOk P 3 ti_int := TyOk.mk' (by kernel_rfl) (by kernel_rfl) (by kernel_rfl) (by kernel_rfl)
theorem tyOk_bool : TyOk P 4 ti_bool := TyOk.mk' (by kernel_rfl) (by kernel_rfl) (by kernel_rfl) (by kernel_rfl)
theorem tyOk_uint8 : TyOk P 5 ti_uint8 := TyOk.mk' (by kernel_rfl) (by kernel_rfl) (by kernel_rfl) (by kernel_rfl)
theorem tyOk_string : TyOk P 9 ti_string := TyOk.mk' (by kernel_rfl) (by kernel_rfl) (by kernel_rfl) (by kernel_rfl)
theorem tyOk_api_Hash : TyOk P 23 ti_api_Hash := TyOk.mk' (by kernel_rfl) (by kernel_rfl) (by kernel_rfl) (by kernel_rfl)
theorem tyOk_sl_api_Pending : TyOk P 24 ti_sl_api_Pending := TyOk.mk' (by kernel_rfl) (by kernel_rfl) (by kernel_rfl) (by kernel_rfl)
theorem tyOk_api_Ledger : TyOk P 26 ti_api_Ledger := TyOk.mk' (by kernel_rfl) (by kernel_rfl) (by kernel_rfl) (by kernel_rfl)
theorem tyOk_api_Errno : TyOk P 28 ti_api_Errno := TyOk.mk' (by kernel_rfl) (by kernel_rfl) (by kernel_rfl) (by kernel_rfl)
theorem tyOk_api_Pending : TyOk P 41 ti_api_Pending := TyOk.mk' (by kernel_rfl) (by kernel_rfl) (by kernel_rfl) (by kernel_rfl)
theorem tyOk_uint16 : TyOk P 49 ti_uint16 := TyOk.mk' (by kernel_rfl) (by kernel_rfl) (by kernel_rfl) (by kernel_rfl)
theorem tyOk_sl_bool : TyOk P 51 ti_sl_bool := TyOk.mk' (by kernel_rfl) (by kernel_rfl) (by kernel_rfl) (by kernel_rfl)
theorem tyOk_sl_uint8 : TyOk P 52 ti_sl_uint8 := TyOk.mk' (by kernel_rfl) (by kernel_rfl) (by kernel_rfl) (by kernel_rfl)
theorem tyOk_map_bool_int : TyOk P 64 ti_map_bool_int := TyOk.mk' (by kernel_rfl) (by kernel_rfl) (by kernel_rfl) (by kernel_rfl)
theorem tyOk_map_bool_int64 : TyOk P 65 ti_map_bool_int64 := TyOk.mk' (by kernel_rfl) (by kernel_rfl) (by kernel_rfl) (by kernel_rfl)
theorem tyOk_cursor_Writer : TyOk P 67 ti_cursor_Writer := TyOk.mk' (by kernel_rfl) (by kernel_rfl) (by kernel_rfl) (by kernel_rfl)
theorem tyOk_uint64 : TyOk P 70 ti_uint64 := TyOk.mk' (by kernel_rfl) (by kernel_rfl) (by kernel_rfl) (by kernel_rfl)
theorem tyOk_cursor_Reader : TyOk P 75 ti_cursor_Reader := TyOk.mk' (by kernel_rfl) (by kernel_rfl) (by kernel_rfl) (by kernel_rfl)
def T : Tbl := (Tbl.cons 2 ti_int64 (Tbl.cons 3 ti_int (Tbl.cons 4 ti_bool (Tbl.cons 5 ti_uint8 (Tbl.cons 9 ti_string (Tbl.cons 23 ti_api_Hash (Tbl.cons 24 ti_sl_api_Pending (Tbl.cons 26 ti_api_Ledger (Tbl.cons 28 ti_api_Errno (Tbl.cons 41 ti_api_Pending (Tbl.cons 49 ti_uint16 (Tbl.cons 51 ti_sl_bool (Tbl.cons 52 ti_sl_uint8 (Tbl.cons 64 ti_map_bool_int (Tbl.cons 65 ti_map_bool_int64 (Tbl.cons 67 ti_cursor_Writer (Tbl.cons 70 ti_uint64 (Tbl.cons 75 ti_cursor_Reader Tbl.nil))))))))))))))))))
theorem tblOk : TblOk P T := (TblOk.cons tyOk_int64 (TblOk.cons tyOk_int (TblOk.cons tyOk_bool (TblOk.cons tyOk_uint8 (TblOk.cons tyOk_string (TblOk.cons tyOk_api_Hash (TblOk.cons tyOk_sl_api_Pending (TblOk.cons tyOk_api_Ledger (TblOk.cons tyOk_api_Errno (TblOk.cons tyOk_api_Pending (TblOk.cons tyOk_uint16 (TblOk.cons tyOk_sl_bool (TblOk.cons tyOk_sl_uint8 (TblOk.cons tyOk_map_bool_int (TblOk.cons tyOk_map_bool_int64 (TblOk.cons tyOk_cursor_Writer (TblOk.cons tyOk_uint64 (TblOk.cons tyOk_cursor_Reader TblOk.nil))))))))))))))))))
theorem T_int64 : T t_int64 = some ti_int64 := rfl
theorem T_int : T t_int = some ti_int := rfl
theorem T_bool : T t_bool = some ti_bool := rfl
theorem T_uint8 : T t_uint8 = some ti_uint8 := rfl
theorem T_string : T t_string = some ti_string := rfl
theorem T_api_Hash : T t_api_Hash = some ti_api_Hash := rfl
theorem T_sl_api_Pending : T t_sl_api_Pending = some ti_sl_api_Pending := rfl
theorem T_api_Ledger : T t_api_Ledger = some ti_api_Ledger := rfl
theorem T_api_Errno : T t_api_Errno = some ti_api_Errno := rfl
theorem T_api_Pending : T t_api_Pending = some ti_api_Pending := rfl
theorem T_uint16 : T t_uint16 = some ti_uint16 := rfl
theorem T_sl_bool : T t_sl_bool = some ti_sl_bool := rfl
theorem T_sl_uint8 : T t_sl_uint8 = some ti_sl_uint8 := rfl
theorem T_map_bool_int : T t_map_bool_int = some ti_map_bool_int := rfl
theorem T_map_bool_int64 : T t_map_bool_int64 = some ti_map_bool_int64 := rfl
theorem T_cursor_Writer : T t_cursor_Writer = some ti_cursor_Writer := rfl
theorem T_uint64 : T t_uint64 = some ti_uint64 := rfl
theorem T_cursor_Reader : T t_cursor_Reader = some ti_cursor_Reader := rfl
noncomputable def cx : Cx := ⟨P, T, fun _ _ => none⟩
theorem cxOk : CxOk cx := ⟨tblOk, fun _ _ _ h => by cases h⟩
theorem mixed : P.follows .mixedOrders = true := by kernel_rfl
theorem drawsOk_of {c : Code} {an : Ann} (h : drawB cx c an = true) (_ : (0 : Nat) = 0) : drawsOk cx c an := drawsOk_of_check cxOk mixed c an h
def escrowlaw14_same.n : FuncId := 11
noncomputable def escrowlaw14_same.body : Code := (Try.f11.body).getD .skip
def commit_sound.n : FuncId := 19
noncomputable def commit_sound.body : Code := (Try.f19.body).getD .skip
def cursor_New.n : FuncId := 20
noncomputable def cursor_New.body : Code := (Try.f20.body).getD .skip
def cursor_lay_uint8.n : FuncId := 38
noncomputable def cursor_lay_uint8.body : Code := (Try.f38.body).getD .skip
def cursor_Writer_U8.n : FuncId := 21
noncomputable def cursor_Writer_U8.body : Code := (Try.f21.body).getD .skip
def cursor_lay_uint64.n : FuncId := 39
noncomputable def cursor_lay_uint64.body : Code := (Try.f39.body).getD .skip
def cursor_Writer_I64.n : FuncId := 22
noncomputable def cursor_Writer_I64.body : Code := (Try.f22.body).getD .skip
def cursor_Writer_Raw.n : FuncId := 40
noncomputable def cursor_Writer_Raw.body : Code := (Try.f40.body).getD .skip
def cursor_Writer_Hash.n : FuncId := 23
noncomputable def cursor_Writer_Hash.body : Code := (Try.f23.body).getD .skip
def cursor_lay_uint16.n : FuncId := 41
noncomputable def cursor_lay_uint16.body : Code := (Try.f41.body).getD .skip
def cursor_Writer_U16.n : FuncId := 24
noncomputable def cursor_Writer_U16.body : Code := (Try.f24.body).getD .skip
def cursor_Writer_Out.n : FuncId := 25
noncomputable def cursor_Writer_Out.body : Code := (Try.f25.body).getD .skip
def commit_Text.n : FuncId := 8
noncomputable def commit_Text.body : Code := (Try.f8.body).getD .skip
def commit_Turn.n : FuncId := 9
noncomputable def commit_Turn.body : Code := (Try.f9.body).getD .skip
def cursor_Open.n : FuncId := 28
noncomputable def cursor_Open.body : Code := (Try.f28.body).getD .skip
def cursor_value_uint8.n : FuncId := 43
noncomputable def cursor_value_uint8.body : Code := (Try.f43.body).getD .skip
def cursor_Reader_breaks.n : FuncId := 47
noncomputable def cursor_Reader_breaks.body : Code := (Try.f47.body).getD .skip
def cursor_Reader_take.n : FuncId := 44
noncomputable def cursor_Reader_take.body : Code := (Try.f44.body).getD .skip
def cursor_Reader_U8.n : FuncId := 29
noncomputable def cursor_Reader_U8.body : Code := (Try.f29.body).getD .skip
def cursor_value_uint64.n : FuncId := 45
noncomputable def cursor_value_uint64.body : Code := (Try.f45.body).getD .skip
def cursor_Reader_I64.n : FuncId := 30
noncomputable def cursor_Reader_I64.body : Code := (Try.f30.body).getD .skip
def cursor_Reader_Hash.n : FuncId := 31
noncomputable def cursor_Reader_Hash.body : Code := (Try.f31.body).getD .skip
def cursor_value_uint16.n : FuncId := 46
noncomputable def cursor_value_uint16.body : Code := (Try.f46.body).getD .skip
def cursor_Reader_U16.n : FuncId := 32
noncomputable def cursor_Reader_U16.body : Code := (Try.f32.body).getD .skip
def cursor_Reader_Err.n : FuncId := 33
noncomputable def cursor_Reader_Err.body : Code := (Try.f33.body).getD .skip
def cursor_Reader_Done.n : FuncId := 34
noncomputable def cursor_Reader_Done.body : Code := (Try.f34.body).getD .skip
def commit_Read.n : FuncId := 15
noncomputable def commit_Read.body : Code := (Try.f15.body).getD .skip
def escrowlaw14_first.n : FuncId := 14
noncomputable def escrowlaw14_first.body : Code := (Try.f14.body).getD .skip
def escrowref14_count.n : FuncId := 42
noncomputable def escrowref14_count.body : Code := (Try.f42.body).getD .skip
def escrowref14_Sound.n : FuncId := 26
noncomputable def escrowref14_Sound.body : Code := (Try.f26.body).getD .skip
def escrowref14_number.n : FuncId := 27
noncomputable def escrowref14_number.body : Code := (Try.f27.body).getD .skip
def escrowref14_Text.n : FuncId := 10
noncomputable def escrowref14_Text.body : Code := (Try.f10.body).getD .skip
def escrowref14_get.n : FuncId := 35
noncomputable def escrowref14_get.body : Code := (Try.f35.body).getD .skip
def escrowref14_hash.n : FuncId := 36
noncomputable def escrowref14_hash.body : Code := (Try.f36.body).getD .skip
def escrowref14_Read.n : FuncId := 16
noncomputable def escrowref14_Read.body : Code := (Try.f16.body).getD .skip
def escrowlaw14_CommitReads.n : FuncId := 4
noncomputable def escrowlaw14_CommitReads.body : Code := (Try.f4.body).getD .skip
end Go.Esc.M
