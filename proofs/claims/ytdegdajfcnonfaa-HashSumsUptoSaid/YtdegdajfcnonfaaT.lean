/- Printed by gen.py (own work): the types of the program Ytdegdajfcnonfaa, their table. -/
import Derived.Test.YtdegdajfcnonfaaProg
import Derived.Test.YtdegdajfcnonfaaER
set_option linter.unusedSimpArgs false
set_option linter.unusedVariables false
namespace Go.Esc.M
open Go Go.Esc Go.Proofs

def t_int : TypeId := 3
def t_uint8 : TypeId := 5
def t_string : TypeId := 9
def t_sl_string : TypeId := 22
def t_api_Hash : TypeId := 26
def t_api_Errno : TypeId := 33
def t_uint : TypeId := 36
def t_sl_uint8 : TypeId := 38
def t_uint64 : TypeId := 44
def t_uint32 : TypeId := 45
def t_ar8_uint32 : TypeId := 46
def t_ar64_uint32 : TypeId := 47
def t_pt_strings_Builder : TypeId := 52
def t_strings_Builder : TypeId := 54
def t_ar64_uint8 : TypeId := 67
def z_int : AVal := .int .i64 0
def ti_int : TI := ⟨.int .i64, 1, 8, z_int⟩
def z_uint8 : AVal := .int .u8 0
def ti_uint8 : TI := ⟨.int .u8, 1, 1, z_uint8⟩
def z_string : AVal := .str []
def ti_string : TI := ⟨.string, 1, 16, z_string⟩
def z_sl_string : AVal := .nilSlice
def ti_sl_string : TI := ⟨.slice t_string, 1, 24, z_sl_string⟩
def z_api_Hash : AVal := .agg (List.replicate 32 (.int .u8 0))
def ti_api_Hash : TI := ⟨.array 32 t_uint8, 32, 32, z_api_Hash⟩
def z_api_Errno : AVal := .int .i64 0
def ti_api_Errno : TI := ⟨.int .i64, 1, 8, z_api_Errno⟩
def z_uint : AVal := .int .u64 0
def ti_uint : TI := ⟨.int .u64, 1, 8, z_uint⟩
def z_sl_uint8 : AVal := .nilSlice
def ti_sl_uint8 : TI := ⟨.slice t_uint8, 1, 24, z_sl_uint8⟩
def z_uint64 : AVal := .int .u64 0
def ti_uint64 : TI := ⟨.int .u64, 1, 8, z_uint64⟩
def z_uint32 : AVal := .int .u32 0
def ti_uint32 : TI := ⟨.int .u32, 1, 4, z_uint32⟩
def z_ar8_uint32 : AVal := .agg (List.replicate 8 (.int .u32 0))
def ti_ar8_uint32 : TI := ⟨.array 8 t_uint32, 8, 32, z_ar8_uint32⟩
def z_ar64_uint32 : AVal := .agg (List.replicate 64 (.int .u32 0))
def ti_ar64_uint32 : TI := ⟨.array 64 t_uint32, 64, 256, z_ar64_uint32⟩
def z_pt_strings_Builder : AVal := .nilPtr
def ti_pt_strings_Builder : TI := ⟨.pointer t_strings_Builder, 1, 8, z_pt_strings_Builder⟩
def z_strings_Builder : AVal := .agg [.nilPtr, .nilSlice]
def ti_strings_Builder : TI := ⟨.struct [(t_pt_strings_Builder, 0), (t_sl_uint8, 1)], 2, 32, z_strings_Builder⟩
def z_ar64_uint8 : AVal := .agg (List.replicate 64 (.int .u8 0))
def ti_ar64_uint8 : TI := ⟨.array 64 t_uint8, 64, 64, z_ar64_uint8⟩
noncomputable abbrev P : Program := Try.prog
theorem tyOk_int : TyOk P 3 ti_int := TyOk.mk' (by kernel_rfl) (by kernel_rfl) (by kernel_rfl) (by kernel_rfl)
theorem tyOk_uint8 : TyOk P 5 ti_uint8 := TyOk.mk' (by kernel_rfl) (by kernel_rfl) (by kernel_rfl) (by kernel_rfl)
theorem tyOk_string : TyOk P 9 ti_string := TyOk.mk' (by kernel_rfl) (by kernel_rfl) (by kernel_rfl) (by kernel_rfl)
theorem tyOk_sl_string : TyOk P 22 ti_sl_string := TyOk.mk' (by kernel_rfl) (by kernel_rfl) (by kernel_rfl) (by kernel_rfl)
theorem tyOk_api_Hash : TyOk P 26 ti_api_Hash := TyOk.mk' (by kernel_rfl) (by kernel_rfl) (by kernel_rfl) (by kernel_rfl)
theorem tyOk_api_Errno : TyOk P 33 ti_api_Errno := TyOk.mk' (by kernel_rfl) (by kernel_rfl) (by kernel_rfl) (by kernel_rfl)
theorem tyOk_uint : TyOk P 36 ti_uint := TyOk.mk' (by kernel_rfl) (by kernel_rfl) (by kernel_rfl) (by kernel_rfl)
theorem tyOk_sl_uint8 : TyOk P 38 ti_sl_uint8 := TyOk.mk' (by kernel_rfl) (by kernel_rfl) (by kernel_rfl) (by kernel_rfl)
theorem tyOk_uint64 : TyOk P 44 ti_uint64 := TyOk.mk' (by kernel_rfl) (by kernel_rfl) (by kernel_rfl) (by kernel_rfl)
theorem tyOk_uint32 : TyOk P 45 ti_uint32 := TyOk.mk' (by kernel_rfl) (by kernel_rfl) (by kernel_rfl) (by kernel_rfl)
theorem tyOk_ar8_uint32 : TyOk P 46 ti_ar8_uint32 := TyOk.mk' (by kernel_rfl) (by kernel_rfl) (by kernel_rfl) (by kernel_rfl)
theorem tyOk_ar64_uint32 : TyOk P 47 ti_ar64_uint32 := TyOk.mk' (by kernel_rfl) (by kernel_rfl) (by kernel_rfl) (by kernel_rfl)
theorem tyOk_pt_strings_Builder : TyOk P 52 ti_pt_strings_Builder := TyOk.mk' (by kernel_rfl) (by kernel_rfl) (by kernel_rfl) (by kernel_rfl)
theorem tyOk_strings_Builder : TyOk P 54 ti_strings_Builder := TyOk.mk' (by kernel_rfl) (by kernel_rfl) (by kernel_rfl) (by kernel_rfl)
theorem tyOk_ar64_uint8 : TyOk P 67 ti_ar64_uint8 := TyOk.mk' (by kernel_rfl) (by kernel_rfl) (by kernel_rfl) (by kernel_rfl)
def T : Tbl := (Tbl.cons 3 ti_int (Tbl.cons 5 ti_uint8 (Tbl.cons 9 ti_string (Tbl.cons 22 ti_sl_string (Tbl.cons 26 ti_api_Hash (Tbl.cons 33 ti_api_Errno (Tbl.cons 36 ti_uint (Tbl.cons 38 ti_sl_uint8 (Tbl.cons 44 ti_uint64 (Tbl.cons 45 ti_uint32 (Tbl.cons 46 ti_ar8_uint32 (Tbl.cons 47 ti_ar64_uint32 (Tbl.cons 52 ti_pt_strings_Builder (Tbl.cons 54 ti_strings_Builder (Tbl.cons 67 ti_ar64_uint8 Tbl.nil)))))))))))))))
theorem tblOk : TblOk P T := (TblOk.cons tyOk_int (TblOk.cons tyOk_uint8 (TblOk.cons tyOk_string (TblOk.cons tyOk_sl_string (TblOk.cons tyOk_api_Hash (TblOk.cons tyOk_api_Errno (TblOk.cons tyOk_uint (TblOk.cons tyOk_sl_uint8 (TblOk.cons tyOk_uint64 (TblOk.cons tyOk_uint32 (TblOk.cons tyOk_ar8_uint32 (TblOk.cons tyOk_ar64_uint32 (TblOk.cons tyOk_pt_strings_Builder (TblOk.cons tyOk_strings_Builder (TblOk.cons tyOk_ar64_uint8 TblOk.nil)))))))))))))))
theorem T_int : T t_int = some ti_int := rfl
theorem T_uint8 : T t_uint8 = some ti_uint8 := rfl
theorem T_string : T t_string = some ti_string := rfl
theorem T_sl_string : T t_sl_string = some ti_sl_string := rfl
theorem T_api_Hash : T t_api_Hash = some ti_api_Hash := rfl
theorem T_api_Errno : T t_api_Errno = some ti_api_Errno := rfl
theorem T_uint : T t_uint = some ti_uint := rfl
theorem T_sl_uint8 : T t_sl_uint8 = some ti_sl_uint8 := rfl
theorem T_uint64 : T t_uint64 = some ti_uint64 := rfl
theorem T_uint32 : T t_uint32 = some ti_uint32 := rfl
theorem T_ar8_uint32 : T t_ar8_uint32 = some ti_ar8_uint32 := rfl
theorem T_ar64_uint32 : T t_ar64_uint32 = some ti_ar64_uint32 := rfl
theorem T_pt_strings_Builder : T t_pt_strings_Builder = some ti_pt_strings_Builder := rfl
theorem T_strings_Builder : T t_strings_Builder = some ti_strings_Builder := rfl
theorem T_ar64_uint8 : T t_ar64_uint8 = some ti_ar64_uint8 := rfl
noncomputable def cx : Cx := ⟨P, T, fun _ _ => none⟩
theorem cxOk : CxOk cx := ⟨tblOk, fun _ _ _ h => by cases h⟩
theorem mixed : P.follows .mixedOrders = true := by kernel_rfl
theorem drawsOk_of {c : Code} {an : Ann} (h : drawB cx c an = true) (_ : (0 : Nat) = 0) : drawsOk cx c an := drawsOk_of_check cxOk mixed c an h
def hash_constants.n : FuncId := 24
noncomputable def hash_constants.body : Code := (Try.f24.body).getD .skip
def bits_RotateLeft32.n : FuncId := 37
noncomputable def bits_RotateLeft32.body : Code := (Try.f37.body).getD .skip
def hash_schedule.n : FuncId := 36
noncomputable def hash_schedule.body : Code := (Try.f36.body).getD .skip
def hash_turned.n : FuncId := 25
noncomputable def hash_turned.body : Code := (Try.f25.body).getD .skip
def hash_Sum.n : FuncId := 12
noncomputable def hash_Sum.body : Code := (Try.f12.body).getD .skip
def hash_over.n : FuncId := 26
noncomputable def hash_over.body : Code := (Try.f26.body).getD .skip
def hash_Mac.n : FuncId := 14
noncomputable def hash_Mac.body : Code := (Try.f14.body).getD .skip
def hash_Hex.n : FuncId := 16
noncomputable def hash_Hex.body : Code := (Try.f16.body).getD .skip
def hash_Parse.n : FuncId := 17
noncomputable def hash_Parse.body : Code := (Try.f17.body).getD .skip
def escrowlaw02_first.n : FuncId := 9
noncomputable def escrowlaw02_first.body : Code := (Try.f9.body).getD .skip
def escrowlaw02_lend.n : FuncId := 10
noncomputable def escrowlaw02_lend.body : Code := (Try.f10.body).getD .skip
def escrowref02_padded.n : FuncId := 32
noncomputable def escrowref02_padded.body : Code := (Try.f32.body).getD .skip
def escrowref02_rounds.n : FuncId := 40
noncomputable def escrowref02_rounds.body : Code := (Try.f40.body).getD .skip
def escrowref02_rot.n : FuncId := 41
noncomputable def escrowref02_rot.body : Code := (Try.f41.body).getD .skip
def escrowref02_block.n : FuncId := 33
noncomputable def escrowref02_block.body : Code := (Try.f33.body).getD .skip
def escrowref02_One.n : FuncId := 22
noncomputable def escrowref02_One.body : Code := (Try.f22.body).getD .skip
def escrowref02_Sum.n : FuncId := 11
noncomputable def escrowref02_Sum.body : Code := (Try.f11.body).getD .skip
def escrowlaw02_kept.n : FuncId := 13
noncomputable def escrowlaw02_kept.body : Code := (Try.f13.body).getD .skip
def escrowlaw02_HashSums.n : FuncId := 3
noncomputable def escrowlaw02_HashSums.body : Code := (Try.f3.body).getD .skip
def escrowref02_Pad.n : FuncId := 27
noncomputable def escrowref02_Pad.body : Code := (Try.f27.body).getD .skip
def escrowref02_Bytes.n : FuncId := 28
noncomputable def escrowref02_Bytes.body : Code := (Try.f28.body).getD .skip
def escrowref02_Mac.n : FuncId := 15
noncomputable def escrowref02_Mac.body : Code := (Try.f15.body).getD .skip
def escrowlaw02_HashMacs.n : FuncId := 4
noncomputable def escrowlaw02_HashMacs.body : Code := (Try.f4.body).getD .skip
def escrowref02_Hex.n : FuncId := 19
noncomputable def escrowref02_Hex.body : Code := (Try.f19.body).getD .skip
def escrowref02_Parse.n : FuncId := 18
noncomputable def escrowref02_Parse.body : Code := (Try.f18.body).getD .skip
def escrowlaw02_HashHexes.n : FuncId := 5
noncomputable def escrowlaw02_HashHexes.body : Code := (Try.f5.body).getD .skip
def escrowlaw02_HashParts.n : FuncId := 6
noncomputable def escrowlaw02_HashParts.body : Code := (Try.f6.body).getD .skip
def escrowlaw02_bytes.n : FuncId := 20
noncomputable def escrowlaw02_bytes.body : Code := (Try.f20.body).getD .skip
def escrowlaw02_HashMac.n : FuncId := 7
noncomputable def escrowlaw02_HashMac.body : Code := (Try.f7.body).getD .skip
def escrowlaw02_value.n : FuncId := 21
noncomputable def escrowlaw02_value.body : Code := (Try.f21.body).getD .skip
def escrowlaw02_HashDigits.n : FuncId := 8
noncomputable def escrowlaw02_HashDigits.body : Code := (Try.f8.body).getD .skip
def strings_Join.n : FuncId := 23
def strings_Builder_WriteByte.n : FuncId := 29
def strings_Builder_String.n : FuncId := 30
def strings_IndexByte.n : FuncId := 31
end Go.Esc.M
