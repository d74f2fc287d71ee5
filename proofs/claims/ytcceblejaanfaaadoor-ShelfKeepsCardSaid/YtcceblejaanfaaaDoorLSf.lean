/- Own work. Chapter 9: the head; SeedSecrets, SeedDerives. -/
import Derived.Test.YtcceblejaanfaaaDoorLSd
set_option linter.unusedSimpArgs false
set_option linter.unusedVariables false
namespace Go.Esc.M
open Go Go.Esc

theorem len_secret {s : List UInt8} (h : s.length = 32) (n : Int) : (secretS s n).1.length = 32 := by
  unfold secretS
  cases okN n
  · rfl
  · exact length_down 48 h
theorem len_derive {s : List UInt8} (h : s.length = 32) (a b : Int) : (deriveS s a b).1.length = 32 := by
  unfold deriveS
  cases okN a && okN b
  · rfl
  · rw [cond_true]
    split
    · exact length_down _ h
    · rfl

section
variable {F0 : List AId} {G0 G : Heap} {ps : List LP} {Q : AVal → Heap → Prop}

theorem newH {h : List UInt8} {K : AId → Heap → Prop} (s : Sp F0 G0 ps G) (hl : h.length = 32) (hK : ∀ i G', Sp F0 G0 (RowL i (.agg (h.map u8v)) :: ps) G' → K i G') :
    aNew G (.own z_api_Hash) fun i G2 => wg (vstore T G2 t_api_Hash (.ptr i [] 0) (.agg (h.map u8v))) fun G3 => K i G3 := newVal s T_api_Hash (fits32 hl) (sz32 hl) (okv32 h) hK

theorem u8_eq (a b : UInt8) {t : TypeId} : vbin T .eql t (u8v a) (u8v b) = some (.bool (decide (a = b))) := by
  unfold u8v
  rw [vbin_eql]
  congr 2
  rw [decide_eq_decide, Int.natCast_inj, UInt8.toNat_inj]

theorem ok0N : okN 0 = true := by decide
theorem okL : okN 281474976710654 = true := by decide
theorem pl0 : pl 0 = 2 ^ 48 - 1 := by decide
theorem plL : pl 281474976710654 = 1 := by decide
theorem sec_zero : secretS (List.replicate 32 0) 0 = (downS (2 ^ 48 - 1) 48 zero32, 0) := by
  unfold secretS zero32
  rw [ok0N, pl0, cond_true]
theorem sec_one : secretS (List.replicate 32 1) 281474976710654 = (downS 1 48 one32, 0) := by
  unfold secretS one32
  rw [okL, plL, cond_true]
theorem der_34 (A : List UInt8) : deriveS A 3 4 = (zero32, 5) := by
  have h3 : okN 3 = true := by decide
  have h4 : okN 4 = true := by decide
  have hne : ¬ pl 3 / 2 ^ level (pl 3) = pl 4 / 2 ^ level (pl 3) := by decide
  unfold deriveS
  rw [h3, h4, if_neg hne]
  rfl
theorem lev_3 : levelS 3 = (2, 0) := by decide

end

end Go.Esc.M
