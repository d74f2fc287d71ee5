/- Printed by gen.py (own work): the types of the program Ytjfnbjpggfjhnaa, their table. -/
import Derived.Test.YtjfnbjpggfjhnaaProg
import Derived.Test.YtjfnbjpggfjhnaaER
set_option linter.unusedSimpArgs false
set_option linter.unusedVariables false
namespace Go.Esc.M
open Go Go.Esc Go.Proofs

def t_int : TypeId := 3
def t_bool : TypeId := 4
def t_uint8 : TypeId := 5
def t_string : TypeId := 9
def t_api_Hash : TypeId := 23
def t_sl_uint8 : TypeId := 31
def t_sl_string : TypeId := 34
def t_uint64 : TypeId := 36
def t_uint32 : TypeId := 37
def t_ar8_uint32 : TypeId := 38
def t_ar64_uint32 : TypeId := 39
def t_ar64_uint8 : TypeId := 43
def t_uint : TypeId := 57
def z_int : AVal := .int .i64 0
def ti_int : TI := ⟨.int .i64, 1, 8, z_int⟩
def z_bool : AVal := .bool false
def ti_bool : TI := ⟨.bool, 1, 1, z_bool⟩
def z_uint8 : AVal := .int .u8 0
def ti_uint8 : TI := ⟨.int .u8, 1, 1, z_uint8⟩
def z_string : AVal := .str []
def ti_string : TI := ⟨.string, 1, 16, z_string⟩
def z_api_Hash : AVal := .agg (List.replicate 32 (.int .u8 0))
def ti_api_Hash : TI := ⟨.array 32 t_uint8, 32, 32, z_api_Hash⟩
def z_sl_uint8 : AVal := .nilSlice
def ti_sl_uint8 : TI := ⟨.slice t_uint8, 1, 24, z_sl_uint8⟩
def z_sl_string : AVal := .nilSlice
def ti_sl_string : TI := ⟨.slice t_string, 1, 24, z_sl_string⟩
def z_uint64 : AVal := .int .u64 0
def ti_uint64 : TI := ⟨.int .u64, 1, 8, z_uint64⟩
def z_uint32 : AVal := .int .u32 0
def ti_uint32 : TI := ⟨.int .u32, 1, 4, z_uint32⟩
def z_ar8_uint32 : AVal := .agg (List.replicate 8 (.int .u32 0))
def ti_ar8_uint32 : TI := ⟨.array 8 t_uint32, 8, 32, z_ar8_uint32⟩
def z_ar64_uint32 : AVal := .agg (List.replicate 64 (.int .u32 0))
def ti_ar64_uint32 : TI := ⟨.array 64 t_uint32, 64, 256, z_ar64_uint32⟩
def z_ar64_uint8 : AVal := .agg (List.replicate 64 (.int .u8 0))
def ti_ar64_uint8 : TI := ⟨.array 64 t_uint8, 64, 64, z_ar64_uint8⟩
def z_uint : AVal := .int .u64 0
def ti_uint : TI := ⟨.int .u64, 1, 8, z_uint⟩
noncomputable abbrev P : Program := Try.prog
theorem tyOk_int : TyOk P 3 ti_int := TyOk.mk' (by kernel_rfl) (by kernel_rfl) (by kernel_rfl) (by kernel_rfl)
theorem tyOk_bool : TyOk P 4 ti_bool := TyOk.mk' (by kernel_rfl) (by kernel_rfl) (by kernel_rfl) (by kernel_rfl)
theorem tyOk_uint8 : TyOk P 5 ti_uint8 := TyOk.mk' (by kernel_rfl) (by kernel_rfl) (by kernel_rfl) (by kernel_rfl)
theorem tyOk_string : TyOk P 9 ti_string := TyOk.mk' (by kernel_rfl) (by kernel_rfl) (by kernel_rfl) (by kernel_rfl)
theorem tyOk_api_Hash : TyOk P 23 ti_api_Hash := TyOk.mk' (by kernel_rfl) (by kernel_rfl) (by kernel_rfl) (by kernel_rfl)
theorem tyOk_sl_uint8 : TyOk P 31 ti_sl_uint8 := TyOk.mk' (by kernel_rfl) (by kernel_rfl) (by kernel_rfl) (by kernel_rfl)
theorem tyOk_sl_string : TyOk P 34 ti_sl_string := TyOk.mk' (by kernel_rfl) (by kernel_rfl) (by kernel_rfl) (by kernel_rfl)
theorem tyOk_uint64 : TyOk P 36 ti_uint64 := TyOk.mk' (by kernel_rfl) (by kernel_rfl) (by kernel_rfl) (by kernel_rfl)
theorem tyOk_uint32 : TyOk P 37 ti_uint32 := TyOk.mk' (by kernel_rfl) (by kernel_rfl) (by kernel_rfl) (by kernel_rfl)
theorem tyOk_ar8_uint32 : TyOk P 38 ti_ar8_uint32 := TyOk.mk' (by kernel_rfl) (by kernel_rfl) (by kernel_rfl) (by kernel_rfl)
theorem tyOk_ar64_uint32 : TyOk P 39 ti_ar64_uint32 := TyOk.mk' (by kernel_rfl) (by kernel_rfl) (by kernel_rfl) (by kernel_rfl)
theorem tyOk_ar64_uint8 : TyOk P 43 ti_ar64_uint8 := TyOk.mk' (by kernel_rfl) (by kernel_rfl) (by kernel_rfl) (by kernel_rfl)
theorem tyOk_uint : TyOk P 57 ti_uint := TyOk.mk' (by kernel_rfl) (by kernel_rfl) (by kernel_rfl) (by kernel_rfl)
def T : Tbl := (Tbl.cons 3 ti_int (Tbl.cons 4 ti_bool (Tbl.cons 5 ti_uint8 (Tbl.cons 9 ti_string (Tbl.cons 23 ti_api_Hash (Tbl.cons 31 ti_sl_uint8 (Tbl.cons 34 ti_sl_string (Tbl.cons 36 ti_uint64 (Tbl.cons 37 ti_uint32 (Tbl.cons 38 ti_ar8_uint32 (Tbl.cons 39 ti_ar64_uint32 (Tbl.cons 43 ti_ar64_uint8 (Tbl.cons 57 ti_uint Tbl.nil)))))))))))))
theorem tblOk : TblOk P T := (TblOk.cons tyOk_int (TblOk.cons tyOk_bool (TblOk.cons tyOk_uint8 (TblOk.cons tyOk_string (TblOk.cons tyOk_api_Hash (TblOk.cons tyOk_sl_uint8 (TblOk.cons tyOk_sl_string (TblOk.cons tyOk_uint64 (TblOk.cons tyOk_uint32 (TblOk.cons tyOk_ar8_uint32 (TblOk.cons tyOk_ar64_uint32 (TblOk.cons tyOk_ar64_uint8 (TblOk.cons tyOk_uint TblOk.nil)))))))))))))
theorem T_int : T t_int = some ti_int := rfl
theorem T_bool : T t_bool = some ti_bool := rfl
theorem T_uint8 : T t_uint8 = some ti_uint8 := rfl
theorem T_string : T t_string = some ti_string := rfl
theorem T_api_Hash : T t_api_Hash = some ti_api_Hash := rfl
theorem T_sl_uint8 : T t_sl_uint8 = some ti_sl_uint8 := rfl
theorem T_sl_string : T t_sl_string = some ti_sl_string := rfl
theorem T_uint64 : T t_uint64 = some ti_uint64 := rfl
theorem T_uint32 : T t_uint32 = some ti_uint32 := rfl
theorem T_ar8_uint32 : T t_ar8_uint32 = some ti_ar8_uint32 := rfl
theorem T_ar64_uint32 : T t_ar64_uint32 = some ti_ar64_uint32 := rfl
theorem T_ar64_uint8 : T t_ar64_uint8 = some ti_ar64_uint8 := rfl
theorem T_uint : T t_uint = some ti_uint := rfl
noncomputable def cx : Cx := ⟨P, T, fun _ _ => none⟩
theorem cxOk : CxOk cx := ⟨tblOk, fun _ _ _ h => by cases h⟩
theorem mixed : P.follows .mixedOrders = true := by kernel_rfl
theorem drawsOk_of {c : Code} {an : Ann} (h : drawB cx c an = true) (_ : (0 : Nat) = 0) : drawsOk cx c an := drawsOk_of_check cxOk mixed c an h
def hash_constants.n : FuncId := 19
noncomputable def hash_constants.body : Code := (Try.f19.body).getD .skip
def bits_RotateLeft32.n : FuncId := 27
noncomputable def bits_RotateLeft32.body : Code := (Try.f27.body).getD .skip
def hash_schedule.n : FuncId := 26
noncomputable def hash_schedule.body : Code := (Try.f26.body).getD .skip
def hash_turned.n : FuncId := 20
noncomputable def hash_turned.body : Code := (Try.f20.body).getD .skip
def hash_Sum.n : FuncId := 13
noncomputable def hash_Sum.body : Code := (Try.f13.body).getD .skip
def hash_over.n : FuncId := 14
noncomputable def hash_over.body : Code := (Try.f14.body).getD .skip
def hash_Mac.n : FuncId := 11
noncomputable def hash_Mac.body : Code := (Try.f11.body).getD .skip
def seal_Sign.n : FuncId := 6
noncomputable def seal_Sign.body : Code := (Try.f6.body).getD .skip
def escrowref02_padded.n : FuncId := 21
noncomputable def escrowref02_padded.body : Code := (Try.f21.body).getD .skip
def escrowref02_rounds.n : FuncId := 28
noncomputable def escrowref02_rounds.body : Code := (Try.f28.body).getD .skip
def escrowref02_rot.n : FuncId := 29
noncomputable def escrowref02_rot.body : Code := (Try.f29.body).getD .skip
def escrowref02_block.n : FuncId := 22
noncomputable def escrowref02_block.body : Code := (Try.f22.body).getD .skip
def escrowref02_One.n : FuncId := 15
noncomputable def escrowref02_One.body : Code := (Try.f15.body).getD .skip
def escrowref02_Pad.n : FuncId := 16
noncomputable def escrowref02_Pad.body : Code := (Try.f16.body).getD .skip
def escrowref02_Bytes.n : FuncId := 17
noncomputable def escrowref02_Bytes.body : Code := (Try.f17.body).getD .skip
def escrowref02_Mac.n : FuncId := 12
noncomputable def escrowref02_Mac.body : Code := (Try.f12.body).getD .skip
def escrowref11_Sign.n : FuncId := 7
noncomputable def escrowref11_Sign.body : Code := (Try.f7.body).getD .skip
def seal_Right.n : FuncId := 9
noncomputable def seal_Right.body : Code := (Try.f9.body).getD .skip
def escrowlaw11_first.n : FuncId := 8
noncomputable def escrowlaw11_first.body : Code := (Try.f8.body).getD .skip
def escrowlaw11_SealSigns.n : FuncId := 3
noncomputable def escrowlaw11_SealSigns.body : Code := (Try.f3.body).getD .skip
def escrowref11_Right.n : FuncId := 10
noncomputable def escrowref11_Right.body : Code := (Try.f10.body).getD .skip
def escrowlaw11_SealRights.n : FuncId := 4
noncomputable def escrowlaw11_SealRights.body : Code := (Try.f4.body).getD .skip
def escrowlaw11_SealOne.n : FuncId := 5
noncomputable def escrowlaw11_SealOne.body : Code := (Try.f5.body).getD .skip
def strings_Join.n : FuncId := 18
end Go.Esc.M
