/- Own work. Rules by which a function's form over trees is worked out. -/
import Derived.Test.YtbckpbdamfhehaaGreatDoorEV
import Derived.IntWalk
set_option linter.unusedSimpArgs false
set_option linter.unusedVariables false
namespace Go.Esc
open Go Go.RowKit

theorem wv_some (v : AVal) (K : AVal → Prop) : wv (some v) K = K v := rfl
theorem wg_some (G : Heap) (K : Heap → Prop) : wg (some G) K = K G := rfl
theorem brB_dec (c : Prop) [Decidable c] (p q : Prop) : brB (some (.bool (decide c))) p q ↔ (c → p) ∧ (¬c → q) := by
  by_cases h : c <;> simp [brB, h]
theorem brB_ndec (c : Prop) [Decidable c] (p q : Prop) : brB (some (.bool (!decide c))) p q ↔ (¬c → p) ∧ (c → q) := by
  by_cases h : c <;> simp [brB, h]
theorem brB_true (p q : Prop) : brB (some (.bool true)) p q = p := rfl
theorem brB_false (p q : Prop) : brB (some (.bool false)) p q = q := rfl
theorem brB_bool (b : Bool) (p q : Prop) : brB (some (.bool b)) p q ↔ (b = true → p) ∧ (b = false → q) := by cases b <;> simp [brB]

section
variable (T : Tbl) (t : TypeId) (k : IntKind) (a b : Int)
theorem vbin_add : vbin T .add t (.int k a) (.int k b) = some (.int k (k.wrap (a + b))) := by simp [vbin, vint]
theorem vbin_sub : vbin T .sub t (.int k a) (.int k b) = some (.int k (k.wrap (a - b))) := by simp [vbin, vint]
theorem vbin_mul : vbin T .mul t (.int k a) (.int k b) = some (.int k (k.wrap (a * b))) := by simp [vbin, vint]
theorem vbin_quo (h : b ≠ 0) : vbin T .quo t (.int k a) (.int k b) = some (.int k (k.wrap (a.tdiv b))) := by simp [vbin, vint, h]
theorem vbin_rem (h : b ≠ 0) : vbin T .rem t (.int k a) (.int k b) = some (.int k (a.tmod b)) := by simp [vbin, vint, h]
theorem vbin_and : vbin T .and t (.int k a) (.int k b) = some (.int k (k.wrap (BitVec.ofInt k.bits a &&& BitVec.ofInt k.bits b).toNat)) := by simp [vbin, vint]
theorem vbin_or : vbin T .or t (.int k a) (.int k b) = some (.int k (k.wrap (BitVec.ofInt k.bits a ||| BitVec.ofInt k.bits b).toNat)) := by simp [vbin, vint]
theorem vbin_xor : vbin T .xor t (.int k a) (.int k b) = some (.int k (k.wrap (BitVec.ofInt k.bits a ^^^ BitVec.ofInt k.bits b).toNat)) := by simp [vbin, vint]
theorem vbin_eql : vbin T .eql t (.int k a) (.int k b) = some (.bool (decide (a = b))) := by simp [vbin, vint]
theorem vbin_neq : vbin T .neq t (.int k a) (.int k b) = some (.bool (!decide (a = b))) := by simp [vbin, vint]
theorem vbin_lss : vbin T .lss t (.int k a) (.int k b) = some (.bool (decide (a < b))) := by simp [vbin, vint]
theorem vbin_leq : vbin T .leq t (.int k a) (.int k b) = some (.bool (decide (a ≤ b))) := by simp [vbin, vint]
theorem vbin_gtr : vbin T .gtr t (.int k a) (.int k b) = some (.bool (decide (b < a))) := by simp [vbin, vint]
theorem vbin_geq : vbin T .geq t (.int k a) (.int k b) = some (.bool (decide (b ≤ a))) := by simp [vbin, vint]
theorem vbin_shl (k' : IntKind) (h : 0 ≤ b) : vbin T .shl t (.int k a) (.int k' b) = some (.int k (k.wrap (a * 2 ^ min b.toNat k.bits))) := by
  have : ¬ b < 0 := by omega
  simp [vbin, vshift, this]
theorem vbin_shr (k' : IntKind) (h : 0 ≤ b) : vbin T .shr t (.int k a) (.int k' b) = some (.int k (a.fdiv (2 ^ min b.toNat k.bits))) := by
  have : ¬ b < 0 := by omega
  simp [vbin, vshift, this]
theorem vbin_sadd {x y : List UInt8} (h : x.length + y.length ≤ 9223372036854775807) : vbin T .add t (.str x) (.str y) = some (.str (x ++ y)) := by simp [vbin, vstr, h]
theorem vbin_seql (x y : List UInt8) : vbin T .eql t (.str x) (.str y) = some (.bool (decide (x = y))) := by simp [vbin, vstr]
theorem vbin_sneq (x y : List UInt8) : vbin T .neq t (.str x) (.str y) = some (.bool (!decide (x = y))) := by simp [vbin, vstr]
theorem vun_not (x : Bool) : vun .not (.bool x) = some (.bool (!x)) := rfl
theorem vun_neg : vun .neg (.int k a) = some (.int k (k.wrap (0 - a))) := rfl
theorem vext0 (x : AVal) (l : List AVal) : vextract (.tuple (x :: l)) 0 = some x := rfl
theorem vext1 (x y : AVal) (l : List AVal) : vextract (.tuple (x :: y :: l)) 1 = some y := rfl
end

theorem i64_in {n : Int} (h0 : -9223372036854775808 ≤ n) (h1 : n ≤ 9223372036854775807) : IntKind.i64.wrap n = n := IntWalk.i64_in n ⟨h0, h1⟩
theorem u8_in {n : Int} (h0 : 0 ≤ n) (h1 : n ≤ 255) : IntKind.u8.wrap n = n := IntWalk.u8_in n ⟨h0, h1⟩
theorem u16_in {n : Int} (h0 : 0 ≤ n) (h1 : n ≤ 65535) : IntKind.u16.wrap n = n := IntWalk.u16_in n ⟨h0, h1⟩
theorem u32_in {n : Int} (h0 : 0 ≤ n) (h1 : n ≤ 4294967295) : IntKind.u32.wrap n = n := IntWalk.u32_in n ⟨h0, h1⟩
theorem u64_in {n : Int} (h0 : 0 ≤ n) (h1 : n ≤ 18446744073709551615) : IntKind.u64.wrap n = n := IntWalk.u64_in n ⟨h0, h1⟩

/-- Signed numbers of 64 bits. -/
def I64 (n : Int) : Prop := -9223372036854775808 ≤ n ∧ n ≤ 9223372036854775807
theorem I64.wrap {n : Int} (h : I64 n) : IntKind.i64.wrap n = n := i64_in h.1 h.2
theorem i64_wf {n : Int} : (Lit.int .i64 n).wf = true ↔ I64 n := by
  simp [Lit.wf, I64, IntKind.min, IntKind.max, IntKind.signed, IntKind.bits]
theorem u64_wf {n : Int} : (Lit.int .u64 n).wf = true ↔ 0 ≤ n ∧ n ≤ 18446744073709551615 := by
  simp [Lit.wf, IntKind.min, IntKind.max, IntKind.signed, IntKind.bits]
theorem u8_wf {n : Int} : (Lit.int .u8 n).wf = true ↔ 0 ≤ n ∧ n ≤ 255 := by
  simp [Lit.wf, IntKind.min, IntKind.max, IntKind.signed, IntKind.bits]

attribute [simp] wv_some wg_some brB_dec brB_ndec brB_true brB_false brB_bool vbin_add vbin_sub vbin_mul vbin_eql vbin_neq vbin_lss vbin_leq vbin_gtr vbin_geq vbin_seql vbin_sneq vun_not vun_neg vext0 vext1

end Go.Esc
