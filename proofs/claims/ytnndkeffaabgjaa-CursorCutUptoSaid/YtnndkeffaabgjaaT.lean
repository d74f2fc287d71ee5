/- Printed by gen.py (own work): the types of the program Ytnndkeffaabgjaa, their table. -/
import Derived.Test.YtnndkeffaabgjaaProg
import Derived.Test.YtnndkeffaabgjaaER
set_option linter.unusedSimpArgs false
set_option linter.unusedVariables false
namespace Go.Esc.M
open Go Go.Esc Go.Proofs

def t_int64 : TypeId := 2
def t_int : TypeId := 3
def t_uint8 : TypeId := 5
def t_string : TypeId := 9
def t_sl_escrowlaw03_Val : TypeId := 22
def t_pt_cursor_Writer : TypeId := 24
def t_uint64 : TypeId := 27
def t_api_Hash : TypeId := 29
def t_escrowlaw03_Val : TypeId := 31
def t_api_Errno : TypeId := 33
def t_pt_cursor_Reader : TypeId := 37
def t_sl_int : TypeId := 44
def t_uint16 : TypeId := 48
def t_sl_uint8 : TypeId := 51
def t_cursor_Writer : TypeId := 53
def t_uint32 : TypeId := 55
def t_cursor_Reader : TypeId := 60
def z_int64 : AVal := .int .i64 0
def ti_int64 : TI := ⟨.int .i64, 1, 8, z_int64⟩
def z_int : AVal := .int .i64 0
def ti_int : TI := ⟨.int .i64, 1, 8, z_int⟩
def z_uint8 : AVal := .int .u8 0
def ti_uint8 : TI := ⟨.int .u8, 1, 1, z_uint8⟩
def z_string : AVal := .str []
def ti_string : TI := ⟨.string, 1, 16, z_string⟩
def z_sl_escrowlaw03_Val : AVal := .nilSlice
def ti_sl_escrowlaw03_Val : TI := ⟨.slice t_escrowlaw03_Val, 1, 24, z_sl_escrowlaw03_Val⟩
def z_pt_cursor_Writer : AVal := .nilPtr
def ti_pt_cursor_Writer : TI := ⟨.pointer t_cursor_Writer, 1, 8, z_pt_cursor_Writer⟩
def z_uint64 : AVal := .int .u64 0
def ti_uint64 : TI := ⟨.int .u64, 1, 8, z_uint64⟩
def z_api_Hash : AVal := .agg (List.replicate 32 (.int .u8 0))
def ti_api_Hash : TI := ⟨.array 32 t_uint8, 32, 32, z_api_Hash⟩
def z_escrowlaw03_Val : AVal := .agg [.int .i64 0, .int .u64 0, .int .i64 0, .agg (List.replicate 32 (.int .u8 0)), .str [], .int .i64 0]
def ti_escrowlaw03_Val : TI := ⟨.struct [(t_int, 0), (t_uint64, 1), (t_int64, 2), (t_api_Hash, 3), (t_string, 35), (t_int, 36)], 37, 80, z_escrowlaw03_Val⟩
def z_api_Errno : AVal := .int .i64 0
def ti_api_Errno : TI := ⟨.int .i64, 1, 8, z_api_Errno⟩
def z_pt_cursor_Reader : AVal := .nilPtr
def ti_pt_cursor_Reader : TI := ⟨.pointer t_cursor_Reader, 1, 8, z_pt_cursor_Reader⟩
def z_sl_int : AVal := .nilSlice
def ti_sl_int : TI := ⟨.slice t_int, 1, 24, z_sl_int⟩
def z_uint16 : AVal := .int .u16 0
def ti_uint16 : TI := ⟨.int .u16, 1, 2, z_uint16⟩
def z_sl_uint8 : AVal := .nilSlice
def ti_sl_uint8 : TI := ⟨.slice t_uint8, 1, 24, z_sl_uint8⟩
def z_cursor_Writer : AVal := .agg [.nilSlice, .int .i64 0]
def ti_cursor_Writer : TI := ⟨.struct [(t_sl_uint8, 0), (t_api_Errno, 1)], 2, 32, z_cursor_Writer⟩
def z_uint32 : AVal := .int .u32 0
def ti_uint32 : TI := ⟨.int .u32, 1, 4, z_uint32⟩
def z_cursor_Reader : AVal := .agg [.str [], .int .i64 0]
def ti_cursor_Reader : TI := ⟨.struct [(t_string, 0), (t_api_Errno, 1)], 2, 24, z_cursor_Reader⟩
noncomputable abbrev P : Program := Try.prog
theorem tyOk_int64 : TyOk P 2 ti_int64 := TyOk.mk' (by kernel_rfl) (by kernel_rfl) (by kernel_rfl) (by kernel_rfl)
theorem tyOk_int : TyOk P 3 ti_int := TyOk.mk' (by kernel_rfl) (by kernel_rfl) (by kernel_rfl) (by kernel_rfl)
theorem tyOk_uint8 : TyOk P 5 ti_uint8 := TyOk.mk' (by kernel_rfl) (by kernel_rfl) (by kernel_rfl) (by kernel_rfl)
theorem tyOk_string : TyOk P 9 ti_string := TyOk.mk' (by kernel_rfl) (by kernel_rfl) (by kernel_rfl) (by kernel_rfl)
theorem tyOk_sl_escrowlaw03_Val : TyOk P 22 ti_sl_escrowlaw03_Val := TyOk.mk' (by kernel_rfl) (by kernel_rfl) (by kernel_rfl) (by kernel_rfl)
theorem tyOk_pt_cursor_Writer : TyOk P 24 ti_pt_cursor_Writer := TyOk.mk' (by kernel_rfl) (by kernel_rfl) (by kernel_rfl) (by kernel_rfl)
theorem tyOk_uint64 : TyOk P 27 ti_uint64 := TyOk.mk' (by kernel_rfl) (by kernel_rfl) (by kernel_rfl) (by kernel_rfl)
theorem tyOk_api_Hash : TyOk P 29 ti_api_Hash := TyOk.mk' (by kernel_rfl) (by kernel_rfl) (by kernel_rfl) (by kernel_rfl)
theorem tyOk_escrowlaw03_Val : TyOk P 31 ti_escrowlaw03_Val := TyOk.mk' (by kernel_rfl) (by kernel_rfl) (by kernel_rfl) (by kernel_rfl)
theorem tyOk_api_Errno : TyOk P 33 ti_api_Errno := TyOk.mk' (by kernel_rfl) (by kernel_rfl) (by kernel_rfl) (by kernel_rfl)
theorem tyOk_pt_cursor_Reader : TyOk P 37 ti_pt_cursor_Reader := TyOk.mk' (by kernel_rfl) (by kernel_rfl) (by kernel_rfl) (by kernel_rfl)
theorem tyOk_sl_int : TyOk P 44 ti_sl_int := TyOk.mk' (by kernel_rfl) (by kernel_rfl) (by kernel_rfl) (by kernel_rfl)
theorem tyOk_uint16 : TyOk P 48 ti_uint16 := TyOk.mk' (by kernel_rfl) (by kernel_rfl) (by kernel_rfl) (by kernel_rfl)
theorem tyOk_sl_uint8 : TyOk P 51 ti_sl_uint8 := TyOk.mk' (by kernel_rfl) (by kernel_rfl) (by kernel_rfl) (by kernel_rfl)
theorem tyOk_cursor_Writer : TyOk P 53 ti_cursor_Writer := TyOk.mk' (by kernel_rfl) (by kernel_rfl) (by kernel_rfl) (by kernel_rfl)
theorem tyOk_uint32 : TyOk P 55 ti_uint32 := TyOk.mk' (by kernel_rfl) (by kernel_rfl) (by kernel_rfl) (by kernel_rfl)
theorem tyOk_cursor_Reader : TyOk P 60 ti_cursor_Reader := TyOk.mk' (by kernel_rfl) (by kernel_rfl) (by kernel_rfl) (by kernel_rfl)
def T : Tbl := (Tbl.cons 2 ti_int64 (Tbl.cons 3 ti_int (Tbl.cons 5 ti_uint8 (Tbl.cons 9 ti_string (Tbl.cons 22 ti_sl_escrowlaw03_Val (Tbl.cons 24 ti_pt_cursor_Writer (Tbl.cons 27 ti_uint64 (Tbl.cons 29 ti_api_Hash (Tbl.cons 31 ti_escrowlaw03_Val (Tbl.cons 33 ti_api_Errno (Tbl.cons 37 ti_pt_cursor_Reader (Tbl.cons 44 ti_sl_int (Tbl.cons 48 ti_uint16 (Tbl.cons 51 ti_sl_uint8 (Tbl.cons 53 ti_cursor_Writer (Tbl.cons 55 ti_uint32 (Tbl.cons 60 ti_cursor_Reader Tbl.nil)))))))))))))))))
theorem tblOk : TblOk P T := (TblOk.cons tyOk_int64 (TblOk.cons tyOk_int (TblOk.cons tyOk_uint8 (TblOk.cons tyOk_string (TblOk.cons tyOk_sl_escrowlaw03_Val (TblOk.cons tyOk_pt_cursor_Writer (TblOk.cons tyOk_uint64 (TblOk.cons tyOk_api_Hash (TblOk.cons tyOk_escrowlaw03_Val (TblOk.cons tyOk_api_Errno (TblOk.cons tyOk_pt_cursor_Reader (TblOk.cons tyOk_sl_int (TblOk.cons tyOk_uint16 (TblOk.cons tyOk_sl_uint8 (TblOk.cons tyOk_cursor_Writer (TblOk.cons tyOk_uint32 (TblOk.cons tyOk_cursor_Reader TblOk.nil)))))))))))))))))
theorem T_int64 : T t_int64 = some ti_int64 := rfl
theorem T_int : T t_int = some ti_int := rfl
theorem T_uint8 : T t_uint8 = some ti_uint8 := rfl
theorem T_string : T t_string = some ti_string := rfl
theorem T_sl_escrowlaw03_Val : T t_sl_escrowlaw03_Val = some ti_sl_escrowlaw03_Val := rfl
theorem T_pt_cursor_Writer : T t_pt_cursor_Writer = some ti_pt_cursor_Writer := rfl
theorem T_uint64 : T t_uint64 = some ti_uint64 := rfl
theorem T_api_Hash : T t_api_Hash = some ti_api_Hash := rfl
theorem T_escrowlaw03_Val : T t_escrowlaw03_Val = some ti_escrowlaw03_Val := rfl
theorem T_api_Errno : T t_api_Errno = some ti_api_Errno := rfl
theorem T_pt_cursor_Reader : T t_pt_cursor_Reader = some ti_pt_cursor_Reader := rfl
theorem T_sl_int : T t_sl_int = some ti_sl_int := rfl
theorem T_uint16 : T t_uint16 = some ti_uint16 := rfl
theorem T_sl_uint8 : T t_sl_uint8 = some ti_sl_uint8 := rfl
theorem T_cursor_Writer : T t_cursor_Writer = some ti_cursor_Writer := rfl
theorem T_uint32 : T t_uint32 = some ti_uint32 := rfl
theorem T_cursor_Reader : T t_cursor_Reader = some ti_cursor_Reader := rfl
noncomputable def cx : Cx := ⟨P, T, fun _ _ => none⟩
theorem cxOk : CxOk cx := ⟨tblOk, fun _ _ _ h => by cases h⟩
theorem mixed : P.follows .mixedOrders = true := by kernel_rfl
theorem drawsOk_of {c : Code} {an : Ann} (h : drawB cx c an = true) (_ : (0 : Nat) = 0) : drawsOk cx c an := drawsOk_of_check cxOk mixed c an h
def cursor_New.n : FuncId := 6
noncomputable def cursor_New.body : Code := (Try.f6.body).getD .skip
def cursor_Writer_Out.n : FuncId := 9
noncomputable def cursor_Writer_Out.body : Code := (Try.f9.body).getD .skip
def cursor_Writer_Len.n : FuncId := 10
noncomputable def cursor_Writer_Len.body : Code := (Try.f10.body).getD .skip
def cursor_Open.n : FuncId := 11
noncomputable def cursor_Open.body : Code := (Try.f11.body).getD .skip
def cursor_Reader_Err.n : FuncId := 13
noncomputable def cursor_Reader_Err.body : Code := (Try.f13.body).getD .skip
def cursor_Reader_Rest.n : FuncId := 14
noncomputable def cursor_Reader_Rest.body : Code := (Try.f14.body).getD .skip
def cursor_Reader_Done.n : FuncId := 15
noncomputable def cursor_Reader_Done.body : Code := (Try.f15.body).getD .skip
def cursor_lay_uint8.n : FuncId := 37
noncomputable def cursor_lay_uint8.body : Code := (Try.f37.body).getD .skip
def cursor_Writer_U8.n : FuncId := 18
noncomputable def cursor_Writer_U8.body : Code := (Try.f18.body).getD .skip
def cursor_lay_uint16.n : FuncId := 38
noncomputable def cursor_lay_uint16.body : Code := (Try.f38.body).getD .skip
def cursor_Writer_U16.n : FuncId := 19
noncomputable def cursor_Writer_U16.body : Code := (Try.f19.body).getD .skip
def cursor_Writer_Raw.n : FuncId := 29
noncomputable def cursor_Writer_Raw.body : Code := (Try.f29.body).getD .skip
def cursor_Writer_Text.n : FuncId := 20
noncomputable def cursor_Writer_Text.body : Code := (Try.f20.body).getD .skip
def cursor_Reader_breaks.n : FuncId := 35
noncomputable def cursor_Reader_breaks.body : Code := (Try.f35.body).getD .skip
def cursor_Reader_take.n : FuncId := 36
noncomputable def cursor_Reader_take.body : Code := (Try.f36.body).getD .skip
def cursor_value_uint16.n : FuncId := 39
noncomputable def cursor_value_uint16.body : Code := (Try.f39.body).getD .skip
def cursor_Reader_Text.n : FuncId := 21
noncomputable def cursor_Reader_Text.body : Code := (Try.f21.body).getD .skip
def cursor_Reader_U16.n : FuncId := 22
noncomputable def cursor_Reader_U16.body : Code := (Try.f22.body).getD .skip
def escrowlaw03_head.n : FuncId := 5
noncomputable def escrowlaw03_head.body : Code := (Try.f5.body).getD .skip
def escrowlaw03_Val_kind.n : FuncId := 23
noncomputable def escrowlaw03_Val_kind.body : Code := (Try.f23.body).getD .skip
def cursor_lay_uint32.n : FuncId := 40
noncomputable def cursor_lay_uint32.body : Code := (Try.f40.body).getD .skip
def cursor_Writer_U32.n : FuncId := 24
noncomputable def cursor_Writer_U32.body : Code := (Try.f24.body).getD .skip
def cursor_lay_uint64.n : FuncId := 41
noncomputable def cursor_lay_uint64.body : Code := (Try.f41.body).getD .skip
def cursor_Writer_U64.n : FuncId := 25
noncomputable def cursor_Writer_U64.body : Code := (Try.f25.body).getD .skip
def cursor_Writer_I64.n : FuncId := 26
noncomputable def cursor_Writer_I64.body : Code := (Try.f26.body).getD .skip
def cursor_Writer_Hash.n : FuncId := 27
noncomputable def cursor_Writer_Hash.body : Code := (Try.f27.body).getD .skip
def escrowlaw03_Val_text.n : FuncId := 28
noncomputable def escrowlaw03_Val_text.body : Code := (Try.f28.body).getD .skip
def escrowlaw03_lays.n : FuncId := 7
noncomputable def escrowlaw03_lays.body : Code := (Try.f7.body).getD .skip
def escrowlaw03_long.n : FuncId := 8
noncomputable def escrowlaw03_long.body : Code := (Try.f8.body).getD .skip
def cursor_Reader_Raw.n : FuncId := 16
noncomputable def cursor_Reader_Raw.body : Code := (Try.f16.body).getD .skip
def cursor_value_uint8.n : FuncId := 42
noncomputable def cursor_value_uint8.body : Code := (Try.f42.body).getD .skip
def cursor_Reader_U8.n : FuncId := 30
noncomputable def cursor_Reader_U8.body : Code := (Try.f30.body).getD .skip
def cursor_value_uint32.n : FuncId := 43
noncomputable def cursor_value_uint32.body : Code := (Try.f43.body).getD .skip
def cursor_Reader_U32.n : FuncId := 31
noncomputable def cursor_Reader_U32.body : Code := (Try.f31.body).getD .skip
def cursor_value_uint64.n : FuncId := 44
noncomputable def cursor_value_uint64.body : Code := (Try.f44.body).getD .skip
def cursor_Reader_U64.n : FuncId := 32
noncomputable def cursor_Reader_U64.body : Code := (Try.f32.body).getD .skip
def cursor_Reader_I64.n : FuncId := 33
noncomputable def cursor_Reader_I64.body : Code := (Try.f33.body).getD .skip
def cursor_Reader_Hash.n : FuncId := 34
noncomputable def cursor_Reader_Hash.body : Code := (Try.f34.body).getD .skip
def escrowlaw03_again.n : FuncId := 12
noncomputable def escrowlaw03_again.body : Code := (Try.f12.body).getD .skip
def escrowlaw03_CursorBack.n : FuncId := 3
noncomputable def escrowlaw03_CursorBack.body : Code := (Try.f3.body).getD .skip
def escrowlaw03_nothing.n : FuncId := 17
noncomputable def escrowlaw03_nothing.body : Code := (Try.f17.body).getD .skip
def escrowlaw03_CursorCut.n : FuncId := 4
noncomputable def escrowlaw03_CursorCut.body : Code := (Try.f4.body).getD .skip
end Go.Esc.M
