/- Own work. Hashes handed about: pairs of a hash and a fault; new rows; numbers halved. -/
import Derived.Test.YtcceblejaanfaaaDoorLHh
import Derived.Test.YtcceblejaanfaaaDoorLAr
import Derived.Test.YtcceblejaanfaaaDoorLHd
set_option linter.unusedSimpArgs false
set_option linter.unusedVariables false
namespace Go.Esc.M
open Go Go.Esc

def tupHI (x : List UInt8 × Int) : AVal := .tuple [.agg (x.1.map u8v), .int .i64 x.2]
theorem hi0 (x : List UInt8 × Int) : vextract (tupHI x) 0 = some (.agg (x.1.map u8v)) := rfl
theorem hi1 (x : List UInt8 × Int) : vextract (tupHI x) 1 = some (.int .i64 x.2) := rfl
theorem hash_eql2 {a b : List UInt8} (ha : a.length = 32) (hb : b.length = 32) : vbin T .eql t_api_Hash (.agg (a.map u8v)) (.agg (b.map u8v)) = some (.bool (decide (a = b))) := vbin_heql T_api_Hash rfl T_uint8 rfl rfl ha hb
theorem hash_neq2 {a b : List UInt8} (ha : a.length = 32) (hb : b.length = 32) : vbin T .neq t_api_Hash (.agg (a.map u8v)) (.agg (b.map u8v)) = some (.bool (!decide (a = b))) := vbin_hneq T_api_Hash rfl T_uint8 rfl rfl ha hb
theorem zero_hash2 : vbuild T t_api_Hash [] = some (.agg ((List.replicate 32 (0 : UInt8)).map u8v)) := rfl
theorem half (i : Nat) (hi : i ≤ 1000000) {t : TypeId} {T : Tbl} : vbin T .quo t (.int .i64 (i : Int)) (.int .i64 2) = some (.int .i64 ((i / 2 : Nat) : Int)) := by
  rw [vbin_quo _ _ _ _ _ (by decide)]
  have : ((i : Int).tdiv 2) = ((i / 2 : Nat) : Int) := tdiv_nat i 2
  rw [this, i64_in (by omega) (by omega)]
theorem fits32 {h : List UInt8} (hl : h.length = 32) : vfits ti_api_Hash (.agg (h.map u8v)) = true := by simp [vfits, sz, szs_uni (uni_u8 h), hl, ti_api_Hash, AVal.isAgg, ADesc.isAgg]
theorem sz32 {h : List UInt8} (hl : h.length = 32) : sz z_api_Hash = sz (.agg (h.map u8v)) := by rw [z_hash, sz, sz, szs_uni (uni_u8 h), szs_uni (uni_u8 _)]; simp [hl]
theorem okv32 (h : List UInt8) : okv (.agg (h.map u8v)) = true := by simp [okv, okvs_u8]
theorem uint_mod (a : Int) (n : Nat) (hn : 0 < n) (hn2 : n ≤ 1000000000000000000) : ∃ k : Nat, k < n ∧ IntKind.i64.wrap ((IntKind.u64.wrap a).tmod (n : Int)) = (k : Int) := by
  rw [wrapU64]
  have h0 : 0 ≤ a % 18446744073709551616 := Int.emod_nonneg _ (by decide)
  obtain ⟨b, hb⟩ : ∃ b : Nat, a % 18446744073709551616 = (b : Int) := ⟨(a % 18446744073709551616).toNat, by omega⟩
  rw [hb]
  have h1 : ((b : Int).tmod (n : Int)) = ((b % n : Nat) : Int) := tmod_nat' b n
  have h2 := Nat.mod_lt b hn
  exact ⟨b % n, h2, by rw [h1, i64_in (by omega) (by omega)]⟩

end Go.Esc.M
