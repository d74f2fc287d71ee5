/- Printed by gen.py (own work): the types of the program YtcceblejaanfaaaDoor, their table. -/
import Derived.Test.YtcceblejaanfaaaDoorProg
import Derived.Test.YtcceblejaanfaaaDoorER
set_option linter.unusedSimpArgs false
set_option linter.unusedVariables false
namespace Go.Esc.M
open Go Go.Esc Go.Proofs

def t_int64 : TypeId := 2
def t_int : TypeId := 3
def t_bool : TypeId := 4
def t_uint8 : TypeId := 5
def t_string : TypeId := 9
def t_sl_api_Slot : TypeId := 22
def t_api_Hash : TypeId := 24
def t_api_Errno : TypeId := 27
def t_api_Slot : TypeId := 32
def t_sl_api_Hash : TypeId := 37
def t_uint64 : TypeId := 50
def t_ar48_int : TypeId := 52
def t_ar64_uint8 : TypeId := 56
def t_uint : TypeId := 57
def t_sl_uint8 : TypeId := 59
def t_sl_string : TypeId := 60
def t_uint32 : TypeId := 62
def t_ar8_uint32 : TypeId := 63
def t_ar64_uint32 : TypeId := 64
def z_int64 : AVal := .int .i64 0
def ti_int64 : TI := ⟨.int .i64, 1, 8, z_int64⟩
def z_int : AVal := .int .i64 0
def ti_int : TI := ⟨.int .i64, 1, 8, z_int⟩
def z_bool : AVal := .bool false
def ti_bool : TI := ⟨.bool, 1, 1, z_bool⟩
def z_uint8 : AVal := .int .u8 0
def ti_uint8 : TI := ⟨.int .u8, 1, 1, z_uint8⟩
def z_string : AVal := .str []
def ti_string : TI := ⟨.string, 1, 16, z_string⟩
def z_sl_api_Slot : AVal := .nilSlice
def ti_sl_api_Slot : TI := ⟨.slice t_api_Slot, 1, 24, z_sl_api_Slot⟩
def z_api_Hash : AVal := .agg (List.replicate 32 (.int .u8 0))
def ti_api_Hash : TI := ⟨.array 32 t_uint8, 32, 32, z_api_Hash⟩
def z_api_Errno : AVal := .int .i64 0
def ti_api_Errno : TI := ⟨.int .i64, 1, 8, z_api_Errno⟩
def z_api_Slot : AVal := .agg [.int .i64 0, .agg (List.replicate 32 (.int .u8 0)), .bool false]
def ti_api_Slot : TI := ⟨.struct [(t_int64, 0), (t_api_Hash, 1), (t_bool, 33)], 34, 48, z_api_Slot⟩
def z_sl_api_Hash : AVal := .nilSlice
def ti_sl_api_Hash : TI := ⟨.slice t_api_Hash, 1, 24, z_sl_api_Hash⟩
def z_uint64 : AVal := .int .u64 0
def ti_uint64 : TI := ⟨.int .u64, 1, 8, z_uint64⟩
def z_ar48_int : AVal := .agg (List.replicate 48 (.int .i64 0))
def ti_ar48_int : TI := ⟨.array 48 t_int, 48, 384, z_ar48_int⟩
def z_ar64_uint8 : AVal := .agg (List.replicate 64 (.int .u8 0))
def ti_ar64_uint8 : TI := ⟨.array 64 t_uint8, 64, 64, z_ar64_uint8⟩
def z_uint : AVal := .int .u64 0
def ti_uint : TI := ⟨.int .u64, 1, 8, z_uint⟩
def z_sl_uint8 : AVal := .nilSlice
def ti_sl_uint8 : TI := ⟨.slice t_uint8, 1, 24, z_sl_uint8⟩
def z_sl_string : AVal := .nilSlice
def ti_sl_string : TI := ⟨.slice t_string, 1, 24, z_sl_string⟩
def z_uint32 : AVal := .int .u32 0
def ti_uint32 : TI := ⟨.int .u32, 1, 4, z_uint32⟩
def z_ar8_uint32 : AVal := .agg (List.replicate 8 (.int .u32 0))
def ti_ar8_uint32 : TI := ⟨.array 8 t_uint32, 8, 32, z_ar8_uint32⟩
def z_ar64_uint32 : AVal := .agg (List.replicate 64 (.int .u32 0))
def ti_ar64_uint32 : TI := ⟨.array 64 t_uint32, 64, 256, z_ar64_uint32⟩
noncomputable abbrev P : Program := Tryd.prog
theorem tyOk_int64 : TyOk P 2 ti_int64 := TyOk.mk' (by kernel_rfl) (by kernel_rfl) (by kernel_rfl) (by kernel_rfl)
theorem tyOk_int : TyOk P 3 ti_int := TyOk.mk' (by kernel_rfl) (by kernel_rfl) (by kernel_rfl) (by kernel_rfl)
theorem tyOk_bool : TyOk P 4 ti_bool := TyOk.mk' (by kernel_rfl) (by kernel_rfl) (by kernel_rfl) (by kernel_rfl)
theorem tyOk_uint8 : TyOk P 5 ti_uint8 := TyOk.mk' (by kernel_rfl) (by kernel_rfl) (by kernel_rfl) (by kernel_rfl)
theorem tyOk_string : TyOk P 9 ti_string := TyOk.mk' (by kernel_rfl) (by kernel_rfl) (by kernel_rfl) (by kernel_rfl)
theorem tyOk_sl_api_Slot : TyOk P 22 ti_sl_api_Slot := TyOk.mk' (by kernel_rfl) (by kernel_rfl) (by kernel_rfl) (by kernel_rfl)
theorem tyOk_api_Hash : TyOk P 24 ti_api_Hash := TyOk.mk' (by kernel_rfl) (by kernel_rfl) (by kernel_rfl) (by kernel_rfl)
theorem tyOk_api_Errno : TyOk P 27 ti_api_Errno := TyOk.mk' (by kernel_rfl) (by kernel_rfl) (by kernel_rfl) (by kernel_rfl)
theorem tyOk_api_Slot : TyOk P 32 ti_api_Slot := TyOk.mk' (by kernel_rfl) (by kernel_rfl) (by kernel_rfl) (by kernel_rfl)
theorem tyOk_sl_api_Hash : TyOk P 37 ti_sl_api_Hash := TyOk.mk' (by kernel_rfl) (by kernel_rfl) (by kernel_rfl) (by kernel_rfl)
theorem tyOk_uint64 : TyOk P 50 ti_uint64 := TyOk.mk' (by kernel_rfl) (by kernel_rfl) (by kernel_rfl) (by kernel_rfl)
theorem tyOk_ar48_int : TyOk P 52 ti_ar48_int := TyOk.mk' (by kernel_rfl) (by kernel_rfl) (by kernel_rfl) (by kernel_rfl)
theorem tyOk_ar64_uint8 : TyOk P 56 ti_ar64_uint8 := TyOk.mk' (by kernel_rfl) (by kernel_rfl) (by kernel_rfl) (by kernel_rfl)
theorem tyOk_uint : TyOk P 57 ti_uint := TyOk.mk' (by kernel_rfl) (by kernel_rfl) (by kernel_rfl) (by kernel_rfl)
theorem tyOk_sl_uint8 : TyOk P 59 ti_sl_uint8 := TyOk.mk' (by kernel_rfl) (by kernel_rfl) (by kernel_rfl) (by kernel_rfl)
theorem tyOk_sl_string : TyOk P 60 ti_sl_string := TyOk.mk' (by kernel_rfl) (by kernel_rfl) (by kernel_rfl) (by kernel_rfl)
theorem tyOk_uint32 : TyOk P 62 ti_uint32 := TyOk.mk' (by kernel_rfl) (by kernel_rfl) (by kernel_rfl) (by kernel_rfl)
theorem tyOk_ar8_uint32 : TyOk P 63 ti_ar8_uint32 := TyOk.mk' (by kernel_rfl) (by kernel_rfl) (by kernel_rfl) (by kernel_rfl)
theorem tyOk_ar64_uint32 : TyOk P 64 ti_ar64_uint32 := TyOk.mk' (by kernel_rfl) (by kernel_rfl) (by kernel_rfl) (by kernel_rfl)
def T : Tbl := (Tbl.cons 2 ti_int64 (Tbl.cons 3 ti_int (Tbl.cons 4 ti_bool (Tbl.cons 5 ti_uint8 (Tbl.cons 9 ti_string (Tbl.cons 22 ti_sl_api_Slot (Tbl.cons 24 ti_api_Hash (Tbl.cons 27 ti_api_Errno (Tbl.cons 32 ti_api_Slot (Tbl.cons 37 ti_sl_api_Hash (Tbl.cons 50 ti_uint64 (Tbl.cons 52 ti_ar48_int (Tbl.cons 56 ti_ar64_uint8 (Tbl.cons 57 ti_uint (Tbl.cons 59 ti_sl_uint8 (Tbl.cons 60 ti_sl_string (Tbl.cons 62 ti_uint32 (Tbl.cons 63 ti_ar8_uint32 (Tbl.cons 64 ti_ar64_uint32 Tbl.nil)))))))))))))))))))
theorem tblOk : TblOk P T := (TblOk.cons tyOk_int64 (TblOk.cons tyOk_int (TblOk.cons tyOk_bool (TblOk.cons tyOk_uint8 (TblOk.cons tyOk_string (TblOk.cons tyOk_sl_api_Slot (TblOk.cons tyOk_api_Hash (TblOk.cons tyOk_api_Errno (TblOk.cons tyOk_api_Slot (TblOk.cons tyOk_sl_api_Hash (TblOk.cons tyOk_uint64 (TblOk.cons tyOk_ar48_int (TblOk.cons tyOk_ar64_uint8 (TblOk.cons tyOk_uint (TblOk.cons tyOk_sl_uint8 (TblOk.cons tyOk_sl_string (TblOk.cons tyOk_uint32 (TblOk.cons tyOk_ar8_uint32 (TblOk.cons tyOk_ar64_uint32 TblOk.nil)))))))))))))))))))
theorem T_int64 : T t_int64 = some ti_int64 := rfl
theorem T_int : T t_int = some ti_int := rfl
theorem T_bool : T t_bool = some ti_bool := rfl
theorem T_uint8 : T t_uint8 = some ti_uint8 := rfl
theorem T_string : T t_string = some ti_string := rfl
theorem T_sl_api_Slot : T t_sl_api_Slot = some ti_sl_api_Slot := rfl
theorem T_api_Hash : T t_api_Hash = some ti_api_Hash := rfl
theorem T_api_Errno : T t_api_Errno = some ti_api_Errno := rfl
theorem T_api_Slot : T t_api_Slot = some ti_api_Slot := rfl
theorem T_sl_api_Hash : T t_sl_api_Hash = some ti_sl_api_Hash := rfl
theorem T_uint64 : T t_uint64 = some ti_uint64 := rfl
theorem T_ar48_int : T t_ar48_int = some ti_ar48_int := rfl
theorem T_ar64_uint8 : T t_ar64_uint8 = some ti_ar64_uint8 := rfl
theorem T_uint : T t_uint = some ti_uint := rfl
theorem T_sl_uint8 : T t_sl_uint8 = some ti_sl_uint8 := rfl
theorem T_sl_string : T t_sl_string = some ti_sl_string := rfl
theorem T_uint32 : T t_uint32 = some ti_uint32 := rfl
theorem T_ar8_uint32 : T t_ar8_uint32 = some ti_ar8_uint32 := rfl
theorem T_ar64_uint32 : T t_ar64_uint32 = some ti_ar64_uint32 := rfl
noncomputable def cx : Cx := ⟨P, T, fun _ _ => none⟩
theorem cxOk : CxOk cx := ⟨tblOk, fun _ _ _ h => by cases h⟩
abbrev g_math_bits_deBruijn64tab : AId := ⟨0, 0, 0⟩
abbrev g_internal_bytealg_MaxLen : AId := ⟨1, 0, 0⟩
theorem mixed : P.follows .mixedOrders = true := by kernel_rfl
theorem drawsOk_of {c : Code} {an : Ann} (h : drawB cx c an = true) (_ : (0 : Nat) = 0) : drawsOk cx c an := drawsOk_of_check cxOk mixed c an h
def seed_right.n : FuncId := 23
noncomputable def seed_right.body : Code := (Tryd.f23.body).getD .skip
def seed_place.n : FuncId := 25
noncomputable def seed_place.body : Code := (Tryd.f25.body).getD .skip
def bits_TrailingZeros64.n : FuncId := 26
noncomputable def bits_TrailingZeros64.body : Code := (Tryd.f26.body).getD .skip
def seed_Level.n : FuncId := 17
noncomputable def seed_Level.body : Code := (Tryd.f17.body).getD .skip
def hash_constants.n : FuncId := 36
noncomputable def hash_constants.body : Code := (Tryd.f36.body).getD .skip
def bits_RotateLeft32.n : FuncId := 43
noncomputable def bits_RotateLeft32.body : Code := (Tryd.f43.body).getD .skip
def hash_schedule.n : FuncId := 42
noncomputable def hash_schedule.body : Code := (Tryd.f42.body).getD .skip
def hash_turned.n : FuncId := 37
noncomputable def hash_turned.body : Code := (Tryd.f37.body).getD .skip
def hash_Sum.n : FuncId := 33
noncomputable def hash_Sum.body : Code := (Tryd.f33.body).getD .skip
def seed_Point.n : FuncId := 31
noncomputable def seed_Point.body : Code := (Tryd.f31.body).getD .skip
def seed_down.n : FuncId := 24
noncomputable def seed_down.body : Code := (Tryd.f24.body).getD .skip
def seed_Derive.n : FuncId := 18
noncomputable def seed_Derive.body : Code := (Tryd.f18.body).getD .skip
def shelf_Put.n : FuncId := 10
noncomputable def shelf_Put.body : Code := (Tryd.f10.body).getD .skip
def shelf_Get.n : FuncId := 14
noncomputable def shelf_Get.body : Code := (Tryd.f14.body).getD .skip
def seed_Secret.n : FuncId := 16
noncomputable def seed_Secret.body : Code := (Tryd.f16.body).getD .skip
def escrowlaw10_first.n : FuncId := 8
noncomputable def escrowlaw10_first.body : Code := (Tryd.f8.body).getD .skip
def escrowlaw10_lend.n : FuncId := 9
noncomputable def escrowlaw10_lend.body : Code := (Tryd.f9.body).getD .skip
def escrowref10_asked.n : FuncId := 19
noncomputable def escrowref10_asked.body : Code := (Tryd.f19.body).getD .skip
def escrowref09_good.n : FuncId := 27
noncomputable def escrowref09_good.body : Code := (Tryd.f27.body).getD .skip
def escrowref09_level.n : FuncId := 28
noncomputable def escrowref09_level.body : Code := (Tryd.f28.body).getD .skip
def escrowref09_Place.n : FuncId := 29
noncomputable def escrowref09_Place.body : Code := (Tryd.f29.body).getD .skip
def escrowref09_Level.n : FuncId := 20
noncomputable def escrowref09_Level.body : Code := (Tryd.f20.body).getD .skip
def escrowref10_at.n : FuncId := 21
noncomputable def escrowref10_at.body : Code := (Tryd.f21.body).getD .skip
def escrowref02_padded.n : FuncId := 44
noncomputable def escrowref02_padded.body : Code := (Tryd.f44.body).getD .skip
def escrowref02_rounds.n : FuncId := 48
noncomputable def escrowref02_rounds.body : Code := (Tryd.f48.body).getD .skip
def escrowref02_rot.n : FuncId := 49
noncomputable def escrowref02_rot.body : Code := (Tryd.f49.body).getD .skip
def escrowref02_block.n : FuncId := 45
noncomputable def escrowref02_block.body : Code := (Tryd.f45.body).getD .skip
def escrowref02_One.n : FuncId := 38
noncomputable def escrowref02_One.body : Code := (Tryd.f38.body).getD .skip
def escrowref02_Sum.n : FuncId := 34
noncomputable def escrowref02_Sum.body : Code := (Tryd.f34.body).getD .skip
def escrowref09_Point.n : FuncId := 32
noncomputable def escrowref09_Point.body : Code := (Tryd.f32.body).getD .skip
def escrowref09_down.n : FuncId := 30
noncomputable def escrowref09_down.body : Code := (Tryd.f30.body).getD .skip
def escrowref09_Derive.n : FuncId := 22
noncomputable def escrowref09_Derive.body : Code := (Tryd.f22.body).getD .skip
def escrowref10_Put.n : FuncId := 11
noncomputable def escrowref10_Put.body : Code := (Tryd.f11.body).getD .skip
def escrowlaw10_same.n : FuncId := 12
noncomputable def escrowlaw10_same.body : Code := (Tryd.f12.body).getD .skip
def escrowlaw10_kept.n : FuncId := 13
noncomputable def escrowlaw10_kept.body : Code := (Tryd.f13.body).getD .skip
def escrowlaw10_ShelfPuts.n : FuncId := 3
noncomputable def escrowlaw10_ShelfPuts.body : Code := (Tryd.f3.body).getD .skip
def escrowref10_Get.n : FuncId := 15
noncomputable def escrowref10_Get.body : Code := (Tryd.f15.body).getD .skip
def escrowlaw10_ShelfGets.n : FuncId := 4
noncomputable def escrowlaw10_ShelfGets.body : Code := (Tryd.f4.body).getD .skip
def escrowlaw10_ShelfKeeps.n : FuncId := 5
noncomputable def escrowlaw10_ShelfKeeps.body : Code := (Tryd.f5.body).getD .skip
def escrowlaw10_ShelfAgrees.n : FuncId := 6
noncomputable def escrowlaw10_ShelfAgrees.body : Code := (Tryd.f6.body).getD .skip
def escrowlaw10_ShelfFew.n : FuncId := 7
noncomputable def escrowlaw10_ShelfFew.body : Code := (Tryd.f7.body).getD .skip
def strings_Join.n : FuncId := 35
end Go.Esc.M
