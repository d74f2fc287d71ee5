import Derived.Test.YtkojimdacnohpaaGreatDoorRows
import Derived.Test.YtkojimdacnohpaaGreatDoorTie
import Derived.Test.YtkojimdacnohpaaGreatDoorCards
import Derived.Test.YtkojimdacnohpaaGreatDoorLWm
import Derived.SevenTiedAt
import Derived.WalkKit
import Derived.ProofKit
import Derived.OpenShut
import Derived.Deep.DeepHandedRow
import Derived.Lib.LaidTab
import Derived.LaidLaws
set_option linter.unusedSimpArgs false
set_option linter.unusedVariables false
namespace Go.Proofs.YtkojimdacnohpaaGreatDoor.resumeLost
open Go Go.Esc Go.Esc.M Go.RowKit
theorem own:ownKnob Tryz.prog.godebug = none:=by kernel_rfl
theorem laidOut:laidOutB Tryz.prog = true:=by kernel_rfl
theorem gN:Tryz.prog.globalNamed "math/bits.deBruijn64tab" = some 0:=by kernel_rfl
theorem gT:(Tryz.prog.globals[0]?).map (·.type) = some 255:=by kernel_rfl
theorem cE:Tryz.prog.cellsOf 5 = 1:=by kernel_rfl
theorem cT:Tryz.prog.cellsOf 255 = 64:=by kernel_rfl
theorem tabIs {W:World} (h:laidMetH Tryz.prog Rows.resumeLostUptoRow.laid W):Lib.TabIs Tryz.prog W "math/bits.deBruijn64tab" .u8 D2 :=
 Lib.tabIs_of_head gN gT Tryz.underlying255 Tryz.underlying5 cE cT (rest:=[]) h
theorem tab {W:World} (h:laidMetH Tryz.prog Rows.resumeLostUptoRow.laid W):Tab (pr W T (Fh gN (tabIs h) (by decide))):=Iy rfl
def argsZ:Array Value:=#[.agg #[.int .i64 0,.int .i64 0,.int .u8 0,.int .u8 0,.int .u8 0,.int .u8 0,.int .u8 0,.int .u8 0,.int .u8 0,.int .u8 0,.int .u8 0,.int .u8 0,.int .u8 0,.int .u8 0,.int .u8 0,.int .u8 0,.int .u8 0,.int .u8 0,.int .u8 0,.int .u8 0,.int .u8 0,.int .u8 0,.int .u8 0,.int .u8 0,.int .u8 0,.int .u8 0,.int .u8 0,.int .u8 0,.int .u8 0,.int .u8 0,.int .u8 0,.int .u8 0,.int .u8 0,.int .u8 0,.int .u8 0,.int .u8 0,.int .u8 0,.int .u8 0,.int .u8 0,.int .u8 0,.int .u8 0,.int .u8 0,.int .u8 0,.int .u8 0,.int .u8 0,.int .u8 0,.int .u8 0,.int .u8 0,.int .u8 0,.int .u8 0,.int .u8 0,.int .u8 0,.int .u8 0,.int .u8 0,.int .u8 0,.int .u8 0,.int .u8 0,.int .u8 0,.int .u8 0,.int .u8 0,.int .u8 0,.int .u8 0,.int .u8 0,.int .u8 0,.int .u8 0,.int .u8 0,.int .u8 0,.int .u8 0,.int .u8 0,.int .u8 0,.int .u8 0,.int .u8 0,.int .u8 0,.int .u8 0,.int .u8 0,.int .u8 0,.int .u8 0,.int .u8 0,.int .u8 0,.int .u8 0,.int .u8 0,.int .u8 0,.int .u8 0,.int .u8 0,.int .u8 0,.int .u8 0,.int .u8 0,.int .u8 0,.int .u8 0,.int .u8 0,.int .u8 0,.int .u8 0,.int .u8 0,.int .u8 0,.int .u8 0,.int .u8 0,.int .u8 0,.int .u8 0,.int .u8 0,.int .u8 0,.int .u8 0,.int .u8 0,.int .u8 0,.int .u8 0,.int .u8 0,.int .u8 0,.int .u8 0,.int .u8 0,.int .u8 0,.int .u8 0,.int .u8 0,.int .u8 0,.int .u8 0,.int .u8 0,.int .u8 0,.int .u8 0,.int .u8 0,.int .u8 0,.int .u8 0,.int .u8 0,.int .u8 0,.int .u8 0,.int .u8 0,.int .u8 0,.int .u8 0,.int .u8 0,.int .u8 0,.int .u8 0,.int .u8 0,.int .u8 0],.slice none 0 0,.int .i64 0,.int .i64 0,.agg #[.int .u8 0,.int .u8 0,.int .u8 0,.int .u8 0,.int .u8 0,.int .u8 0,.int .u8 0,.int .u8 0,.int .u8 0,.int .u8 0,.int .u8 0,.int .u8 0,.int .u8 0,.int .u8 0,.int .u8 0,.int .u8 0,.int .u8 0,.int .u8 0,.int .u8 0,.int .u8 0,.int .u8 0,.int .u8 0,.int .u8 0,.int .u8 0,.int .u8 0,.int .u8 0,.int .u8 0,.int .u8 0,.int .u8 0,.int .u8 0,.int .u8 0,.int .u8 0]]
noncomputable def laidWorld (os:Os):World :=
 let w0:=World.holding Tryz.prog os ⟨#[],#[],[]⟩
 { w0 with heap:=w0.heap.modify 0 fun
   | .cells _ t frozen=>.cells #[.int .u8 0,.int .u8 1,.int .u8 56,.int .u8 2,.int .u8 57,.int .u8 49,.int .u8 28,.int .u8 3,.int .u8 61,.int .u8 58,.int .u8 42,.int .u8 50,.int .u8 38,.int .u8 29,.int .u8 17,.int .u8 4,.int .u8 62,.int .u8 47,.int .u8 59,.int .u8 36,.int .u8 45,.int .u8 43,.int .u8 51,.int .u8 22,.int .u8 53,.int .u8 39,.int .u8 33,.int .u8 30,.int .u8 24,.int .u8 18,.int .u8 12,.int .u8 5,.int .u8 63,.int .u8 55,.int .u8 48,.int .u8 27,.int .u8 60,.int .u8 41,.int .u8 37,.int .u8 16,.int .u8 46,.int .u8 35,.int .u8 44,.int .u8 21,.int .u8 52,.int .u8 32,.int .u8 23,.int .u8 11,.int .u8 54,.int .u8 26,.int .u8 40,.int .u8 15,.int .u8 34,.int .u8 20,.int .u8 31,.int .u8 10,.int .u8 25,.int .u8 14,.int .u8 19,.int .u8 9,.int .u8 13,.int .u8 8,.int .u8 7,.int .u8 6] t frozen
   | o=>o }
theorem laidWorld_met (os:Os):laidMet Tryz.prog Rows.resumeLostUptoRow.laid ((laidWorld os).forCall (fun _ _=>0) ⟨#[],argsZ,[]⟩).memory :=
 laidMet_of_run' 8 (by kernel_rfl) (by kernel_rfl)
mutual
theorem bulk_eq {H:Type}:∀ d:DataW H,Rows.uptoBulk d = bulk d
 | .lit l=>by cases l <;> simp [Rows.uptoBulk,bulk]
 | .nil=>by simp [Rows.uptoBulk,bulk]
 | .ptr d=>by simp [Rows.uptoBulk,bulk,bulk_eq d]
 | .slice a b=>by simp [Rows.uptoBulk,bulk,bulkAll_eq a,bulkAll_eq b]
 | .agg a=>by simp [Rows.uptoBulk,bulk,bulkAll_eq a]
 | .iface _ d=>by simp [Rows.uptoBulk,bulk,bulk_eq d]
 | .map a=>by simp [Rows.uptoBulk,bulk,bulkEntries_eq a]
 | .held _=>by simp [Rows.uptoBulk,bulk]
theorem bulkAll_eq {H:Type}:∀ l:List (DataW H),Rows.uptoBulkAll l = iU l
 | []=>by simp [Rows.uptoBulkAll,iU]
 | d :: l=>by simp [Rows.uptoBulkAll,iU,bulk_eq d,bulkAll_eq l]
theorem bulkEntries_eq {H:Type}:∀ l:List (Lit × DataW H),Rows.uptoBulkEntries l = oC l
 | []=>by simp [Rows.uptoBulkEntries,oC]
 | d :: l=>by simp [Rows.uptoBulkEntries,oC,bulkEntry_eq d,bulkEntries_eq l]
theorem bulkEntry_eq {H:Type}:∀ x:Lit × DataW H,Rows.uptoBulkEntry x = wy x
 | (l,d)=>by cases l <;> simp [Rows.uptoBulkEntry,wy,bulk_eq d]
end
theorem small {H:Type} {ds:List (DataW H)} (h:Rows.uptoSmall H (ds ++ []) = true):iU ds ≤ 1048576:=by
 rw [<- bulkAll_eq]
 rw [List.append_nil] at h
 exact of_decide_eq_true h
theorem bounded (l:List Nat):∃ R,∀ n ∈ l,n ≤ R:=by
 induction l with
 | nil=>exact ⟨0,by simp⟩
 | cons x l ih=>
  obtain ⟨R,hR⟩:=ih
  exact ⟨x + R,fun n hn=>by
   rcases List.mem_cons.1 hn with rfl | hn
   ·omega
   ·have:=hR n hn
    omega⟩
theorem reads (os:Os) {H:Type} (enc:TypeId × Value -> H):∃ places,DataW.whole enc Tryz.prog ((laidWorld os).forCall (fun _ _=>0) ⟨#[],argsZ,[]⟩).memory Tryz.f5.params.toList Rows.resumeLostSpec.vars false argsZ.toList 8 = some ([.agg [.lit (.int .i64 0),.lit (.int .i64 0),.agg (List.replicate 2 (.agg (List.replicate 32 (.lit (.int .u8 0))))),.agg (List.replicate 2 (.agg (List.replicate 32 (.lit (.int .u8 0)))))],.nil,.lit (.int .i64 0),.lit (.int .i64 0),.agg (List.replicate 32 (.lit (.int .u8 0)))],[],places) :=
 ⟨[],by kernel_rfl⟩
set_option maxRecDepth 100000 in
theorem lifted (os:Os) (started:os.Started) (H:Type) (enc:TypeId × Value -> H) (F:Stop.Interp) :
  ReturnsInHanded {} Tryz.checked os 5 .any ((Rows.OpenSpec.upto Rows.resumeLostSpec).preRow enc Tryz.prog Tryz.f5 Rows.resumeLostUptoRow.domain false Rows.resumeLostUptoRow.laid) (((Rows.OpenSpec.upto Rows.resumeLostSpec).at F).post enc Tryz.prog Tryz.f5 false true false false):=by
 obtain ⟨places,hx⟩:=reads os enc
 refine returnsInHanded_of_row (C:=Tryz.checked) (s:=Rows.OpenSpec.upto Rows.resumeLostSpec) own started (by kernel_rfl) Tryz.func5
  (witness_row_at (enc:=enc) (C:=Tryz.checked) false (laidWorld os) argsZ rfl (by kernel_rfl) (by kernel_rfl) (by kernel_rfl)
   (OpenSpec.preRow_of_cond 8 hx (by kernel_rfl) (fun k hk=>by cases hk; kernel_rfl) (by kernel_rfl) (laidWorld_met os))) ?_
 intro W base args ds gs before hval hW _ hcond _ hL _ _
 have hg:gs = []:=by
  obtain ⟨p,q,_,hV,_⟩:=hW
  exact (ChangeShapes.trodVars_none hV).1
 subst hg
 have hk:=hcond _ rfl
 obtain ⟨R,hR⟩:=bounded (DataW.weightsEach Tryz.prog Tryz.f5.params.toList ds)
 refine Ix (d:=6) (tb:=4) Kb (Fh gN (tabIs hL) (by decide)) laidOut Tryz.func5 (by kernel_rfl) (by kernel_rfl) (by kernel_rfl) (by kernel_rfl) rfl (by kernel_rfl) Tryz.underlying4 (fun hl=>by
  have hl:ds.length = 5:=hl.trans (by kernel_rfl)
  match ds,hl with
  | [xa,xb,xc,xd,xe],_=>exact ⟨rfl,rfl,rfl⟩) hval hW hR fun avs ms hwt hsum=>?_
 ·rw [Tryz.params5] at hwt
  obtain ⟨a,avs,ma,ms,rfl,rfl,ha,hwt⟩:=rH hwt
  obtain ⟨b,avs,mb,ms,rfl,rfl,hb,hwt⟩:=rH hwt
  obtain ⟨c,avs,mc,ms,rfl,rfl,hc,hwt⟩:=rH hwt
  obtain ⟨d,avs,md,ms,rfl,rfl,hd,hwt⟩:=rH hwt
  obtain ⟨e,avs,me,ms,rfl,rfl,he,hwt⟩:=rH hwt
  obtain ⟨rfl,rfl⟩:=Ji hwt
  have hs:=small hk
  rw [<- hsum] at hs
  simp only [List.sum_cons,List.sum_nil,Nat.add_zero] at hs
  exact y5 (tab hL) ha hb hc hd he hs
theorem over:Rows.resumeLostUptoRow.holds Tryz.pinned (Rows.OpenSpec.upto Rows.resumeLostSpec) :=
 OpenClaim.holds_of_cond 5 Tryz.f5 rfl rfl rfl rfl rfl rfl rfl ⟨rfl,rfl,rfl,rfl,rfl⟩ rfl rfl rfl rfl rfl (by kernel_rfl) Tryz.func5 (by kernel_rfl)
  (of_decide_eq_true (by kernel_rfl)) (by unfold Func.isWrapper; first | (rw [if_pos (by decide +kernel)]; kernel_rfl) | (rw [if_neg (by decide +kernel)]; exact ⟨rfl,rfl⟩))
  (fun os started H enc _ F=>by rw [OpenClaim.pre_eq_preRow]; exact lifted os started H enc F)
theorem wants:∀ (j:Nat) (t:TypeId),Tryz.f5.params[j]? = some t -> Tryz.prog.wantsStandIn t = false:=by
 intro j t ht
 rw [Tryz.params5] at ht
 have hl:=(Array.getElem?_eq_some_iff.1 ht).1
 match j,hl,ht with
 | 0,_,ht=>exact Option.some.inj (show some 26 = some t from ht) ▸ (show Tryz.prog.wantsStandIn 26 = false by kernel_rfl)
 | 1,_,ht=>exact Option.some.inj (show some 27 = some t from ht) ▸ (show Tryz.prog.wantsStandIn 27 = false by kernel_rfl)
 | 2,_,ht=>exact Option.some.inj (show some 2 = some t from ht) ▸ (show Tryz.prog.wantsStandIn 2 = false by kernel_rfl)
 | 3,_,ht=>exact Option.some.inj (show some 2 = some t from ht) ▸ (show Tryz.prog.wantsStandIn 2 = false by kernel_rfl)
 | 4,_,ht=>exact Option.some.inj (show some 23 = some t from ht) ▸ (show Tryz.prog.wantsStandIn 23 = false by kernel_rfl)
 | j + 5,hl,_=>exact absurd hl (by simp)
theorem card:Claim7.holds Tryz.pinned (.plain (Rows.OpenSpec.upto Rows.resumeLostSpec)) Rows.resumeLostUptoCard :=
 Claim7.holds_tied_plain_at .later [] [.data] true (true,"35e75812772031919e6c66031fd79ca5390eb81c7b3d72923df80e90aa44b87f") false
  over (fun _ h=>by cases h) (by kernel_rfl) (fun _ h=>by cases h) resumeLostUpto_row_tie rfl ⟨rfl,rfl⟩ (by kernel_rfl) rfl
  (fun f fn hf hfn=>by
   obtain rfl:f = 5:=Option.some.inj ((show Tryz.prog.funcNamed "escrow/escrowlaw18.ResumeLost" = some 5 by kernel_rfl).symm.trans hf) |>.symm
   obtain rfl:fn = Tryz.f5:=(Option.some.inj (Tryz.func5.symm.trans hfn)).symm
   exact ⟨by kernel_rfl,wants⟩)
  (by kernel_rfl)
end Go.Proofs.YtkojimdacnohpaaGreatDoor.resumeLost
namespace Go.Proofs.YtkojimdacnohpaaGreatDoor
theorem resumeLost_holds:Rows.ResumeLostUptoCardSaid:=resumeLost.card
end Go.Proofs.YtkojimdacnohpaaGreatDoor
