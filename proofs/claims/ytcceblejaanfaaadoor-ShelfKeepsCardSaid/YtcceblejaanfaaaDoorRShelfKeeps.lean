/- Proved: shelfKeeps's card: the law returns true for every input, with math/bits' table as the row lists it. No other condition. -/
import Derived.Test.YtcceblejaanfaaaDoorRows
import Derived.Test.YtcceblejaanfaaaDoorTie
import Derived.Test.YtcceblejaanfaaaDoorCards
import Derived.Test.YtcceblejaanfaaaDoorLVi
import Derived.SevenTiedAt
import Derived.LaidLaws
set_option linter.unusedSimpArgs false
set_option linter.unusedVariables false
namespace Go.Proofs.YtcceblejaanfaaaDoor.shelfKeeps
open Go Go.Esc Go.Esc.M Go.RowKit

theorem own : ownKnob Tryd.prog.godebug = none := by kernel_rfl
theorem laidOut : laidOutB Tryd.prog = true := by kernel_rfl
theorem gN : Tryd.prog.globalNamed "math/bits.deBruijn64tab" = some 0 := by kernel_rfl
theorem gT : (Tryd.prog.globals[0]?).map (·.type) = some 56 := by kernel_rfl
theorem cE : Tryd.prog.cellsOf 5 = 1 := by kernel_rfl
theorem cT : Tryd.prog.cellsOf 56 = 64 := by kernel_rfl
theorem tabIs {W : World} (h : laidMetH Tryd.prog Rows.shelfKeepsRow.laid W) : Lib.TabIs Tryd.prog W "math/bits.deBruijn64tab" .u8 tabZ :=
  Lib.tabIs_of_head gN gT Tryd.underlying56 Tryd.underlying5 cE cT (rest := []) h
theorem tab {W : World} (h : laidMetH Tryd.prog Rows.shelfKeepsRow.laid W) : Tab (laidHeap W T (tabLaid gN (tabIs h) (by decide))) := laid_row rfl

/-- A world that meets the condition. -/
noncomputable def laidWorld (os : Os) : World :=
  let w0 := World.holding Tryd.prog os ⟨#[], #[], []⟩
  { w0 with heap := w0.heap.modify 0 fun
      | .cells _ t frozen => .cells #[.int .u8 0, .int .u8 1, .int .u8 56, .int .u8 2, .int .u8 57, .int .u8 49, .int .u8 28, .int .u8 3, .int .u8 61, .int .u8 58, .int .u8 42, .int .u8 50, .int .u8 38, .int .u8 29, .int .u8 17, .int .u8 4, .int .u8 62, .int .u8 47, .int .u8 59, .int .u8 36, .int .u8 45, .int .u8 43, .int .u8 51, .int .u8 22, .int .u8 53, .int .u8 39, .int .u8 33, .int .u8 30, .int .u8 24, .int .u8 18, .int .u8 12, .int .u8 5, .int .u8 63, .int .u8 55, .int .u8 48, .int .u8 27, .int .u8 60, .int .u8 41, .int .u8 37, .int .u8 16, .int .u8 46, .int .u8 35, .int .u8 44, .int .u8 21, .int .u8 52, .int .u8 32, .int .u8 23, .int .u8 11, .int .u8 54, .int .u8 26, .int .u8 40, .int .u8 15, .int .u8 34, .int .u8 20, .int .u8 31, .int .u8 10, .int .u8 25, .int .u8 14, .int .u8 19, .int .u8 9, .int .u8 13, .int .u8 8, .int .u8 7, .int .u8 6] t frozen
      | o => o }
theorem laidWorld_met (os : Os) (args : Array Value) : laidMetH Tryd.prog Rows.shelfKeepsRow.laid ((laidWorld os).forCall (fun _ _ => 0) ⟨#[], args, []⟩).memory :=
  laidMetH_of_parts (laidMet_of_run' 8 (by kernel_rfl) (by kernel_rfl)) (by kernel_rfl)

theorem weights_of {H : Type} {vars : List TypeId} {ts : List TypeId} {ds gs : List (DataW H)} (hg : gs = []) (hv : vars = []) (hs : (DataW.weightsEach Tryd.prog (ts ++ vars) (ds ++ gs)).all (· ≤ reachBytes) = true) :
    ∀ n ∈ DataW.weightsEach Tryd.prog ts ds, n ≤ reachBytes := by
  subst hg hv
  rw [List.append_nil, List.append_nil] at hs
  simpa using hs

set_option maxRecDepth 100000 in
theorem lifted (os : Os) (started : os.Started) (H : Type) (enc : TypeId × Value → H) :
    ReturnsInHanded {} Tryd.checked os 5 .any (fun w args => (Rows.shelfKeepsSpec.pre enc Tryd.prog Tryd.f5 Rows.shelfKeepsRow.domain false w args ∧ laidMetH Tryd.prog Rows.shelfKeepsRow.laid w) ∧ sizedMet enc Tryd.prog Tryd.f5 (OpenSpec.ofChange Rows.shelfKeepsSpec) false w args)
      (Rows.shelfKeepsSpec.post enc Tryd.prog Tryd.f5 false true false false) := by
  refine returnsInHanded_of_change_and (C := Tryd.checked) (X := fun w _ => laidMetH Tryd.prog Rows.shelfKeepsRow.laid w) (fun _ _ _ hh h => h.of_heap hh) own started (by kernel_rfl) Tryd.func5
    (ChangeSpec.witness_at (enc := enc) (C := Tryd.checked) (os := os) (X := fun w _ => laidMetH Tryd.prog Rows.shelfKeepsRow.laid w) false (laidWorld os) #[.agg #[.int .u8 0, .int .u8 0, .int .u8 0, .int .u8 0, .int .u8 0, .int .u8 0, .int .u8 0, .int .u8 0, .int .u8 0, .int .u8 0, .int .u8 0, .int .u8 0, .int .u8 0, .int .u8 0, .int .u8 0, .int .u8 0, .int .u8 0, .int .u8 0, .int .u8 0, .int .u8 0, .int .u8 0, .int .u8 0, .int .u8 0, .int .u8 0, .int .u8 0, .int .u8 0, .int .u8 0, .int .u8 0, .int .u8 0, .int .u8 0, .int .u8 0, .int .u8 0], .int .i64 0, .int .i64 0, .agg #[.int .u8 0, .int .u8 0, .int .u8 0, .int .u8 0, .int .u8 0, .int .u8 0, .int .u8 0, .int .u8 0, .int .u8 0, .int .u8 0, .int .u8 0, .int .u8 0, .int .u8 0, .int .u8 0, .int .u8 0, .int .u8 0, .int .u8 0, .int .u8 0, .int .u8 0, .int .u8 0, .int .u8 0, .int .u8 0, .int .u8 0, .int .u8 0, .int .u8 0, .int .u8 0, .int .u8 0, .int .u8 0, .int .u8 0, .int .u8 0, .int .u8 0, .int .u8 0]] 8 rfl (by kernel_rfl) (by kernel_rfl) (by kernel_rfl) (by kernel_rfl) (by kernel_rfl) (laidWorld_met os _)) ?_
  intro W base args ds gs before hval hW hcnd hsz hL _
  have hg : gs = [] := by
    obtain ⟨p, q, _, hV, _⟩ := hW
    exact (ChangeShapes.trodVars_none hV).1
  refine law_laid (d := 4) (tb := 4) tblOk (tabLaid gN (tabIs hL) (by decide)) laidOut Tryd.func5 (by kernel_rfl) (by kernel_rfl) (by kernel_rfl) (by kernel_rfl) rfl (by kernel_rfl) Tryd.underlying4 (fun hl => by
    have hl : ds.length = 4 := hl.trans (by kernel_rfl)
    match ds, hl with
    | [xa, xb, xc, xd], _ => exact ⟨rfl, rfl, rfl⟩) hval hW (weights_of hg rfl hsz) fun avs ms hwt hsum => ?_
  · rw [Tryd.params5] at hwt
    obtain ⟨a, avs, ma, ms, rfl, rfl, ha, hwt⟩ := wtl_cons hwt
    obtain ⟨b, avs, mb, ms, rfl, rfl, hb, hwt⟩ := wtl_cons hwt
    obtain ⟨c, avs, mc, ms, rfl, rfl, hc, hwt⟩ := wtl_cons hwt
    obtain ⟨d, avs, md, ms, rfl, rfl, hd, hwt⟩ := wtl_cons hwt
    obtain ⟨rfl, rfl⟩ := wtl_nil hwt
    exact law_ShelfKeeps (tab hL) ha hb hc hd

theorem over : Rows.shelfKeepsRow.holds Tryd.pinned (OpenSpec.ofChange Rows.shelfKeepsSpec) :=
  OpenClaim.holds_of_wide 5 Tryd.f5 rfl rfl rfl rfl rfl rfl rfl ⟨rfl, rfl, rfl, rfl, rfl⟩ rfl rfl rfl rfl rfl (by kernel_rfl) Tryd.func5 (by kernel_rfl)
    (of_decide_eq_true (by kernel_rfl)) (by unfold Func.isWrapper; first | (rw [if_pos (by decide +kernel)]; kernel_rfl) | (rw [if_neg (by decide +kernel)]; exact ⟨rfl, rfl⟩))
    (fun os started H enc _ => lifted os started H enc)

theorem wants : ∀ (j : Nat) (t : TypeId), Tryd.f5.params[j]? = some t → Tryd.prog.wantsStandIn t = false := by
  intro j t ht
  rw [Tryd.params5] at ht
  have hl := (Array.getElem?_eq_some_iff.1 ht).1
  match j, hl, ht with
  | 0, _, ht => exact Option.some.inj (show some 24 = some t from ht) ▸ (show Tryd.prog.wantsStandIn 24 = false by kernel_rfl)
  | 1, _, ht => exact Option.some.inj (show some 3 = some t from ht) ▸ (show Tryd.prog.wantsStandIn 3 = false by kernel_rfl)
  | 2, _, ht => exact Option.some.inj (show some 3 = some t from ht) ▸ (show Tryd.prog.wantsStandIn 3 = false by kernel_rfl)
  | 3, _, ht => exact Option.some.inj (show some 24 = some t from ht) ▸ (show Tryd.prog.wantsStandIn 24 = false by kernel_rfl)
  | j + 4, hl, _ => exact absurd hl (by simp)

theorem card : Claim7.holds Tryd.pinned (.plain (OpenSpec.ofChange Rows.shelfKeepsSpec)) Rows.shelfKeepsCard :=
  Claim7.holds_tied_plain_at .later [] [.data] true (true, "e15a9dad83db7cf42bc2a16faf86769d265a3800ad72b83c5466677c1ab91179") false
    over (fun _ h => by cases h) (by kernel_rfl) (fun _ h => by cases h) shelfKeeps_row_tie rfl ⟨rfl, rfl⟩ (by kernel_rfl) rfl
    (fun f fn hf hfn => by
      obtain rfl : f = 5 := Option.some.inj ((show Tryd.prog.funcNamed "escrow/escrowlaw10.ShelfKeeps" = some 5 by kernel_rfl).symm.trans hf) |>.symm
      obtain rfl : fn = Tryd.f5 := (Option.some.inj (Tryd.func5.symm.trans hfn)).symm
      exact ⟨by kernel_rfl, wants⟩)
    (by kernel_rfl)
end Go.Proofs.YtcceblejaanfaaaDoor.shelfKeeps
namespace Go.Proofs.YtcceblejaanfaaaDoor
theorem shelfKeeps_holds : Rows.ShelfKeepsCardSaid := shelfKeeps.card
end Go.Proofs.YtcceblejaanfaaaDoor
