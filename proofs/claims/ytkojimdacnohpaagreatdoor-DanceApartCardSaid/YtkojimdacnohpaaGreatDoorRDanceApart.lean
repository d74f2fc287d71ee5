import Derived.Test.YtkojimdacnohpaaGreatDoorRows
import Derived.Test.YtkojimdacnohpaaGreatDoorTie
import Derived.Test.YtkojimdacnohpaaGreatDoorCards
import Derived.Test.YtkojimdacnohpaaGreatDoorLWv
import Derived.SevenTiedAt
import Derived.LaidLaws
set_option linter.unusedSimpArgs false
set_option linter.unusedVariables false
namespace Go.Proofs.YtkojimdacnohpaaGreatDoor.danceApart
open Go Go.Esc Go.Esc.M Go.RowKit
theorem own:ownKnob Tryz.prog.godebug=none:=by kernel_rfl
theorem laidOut:laidOutB Tryz.prog=true:=by kernel_rfl
theorem gN:Tryz.prog.globalNamed "math/bits.deBruijn64tab"=some 0:=by kernel_rfl
theorem gT:(Tryz.prog.globals[0]?).map (·.type)=some 255:=by kernel_rfl
theorem cE:Tryz.prog.cellsOf 5=1:=by kernel_rfl
theorem cT:Tryz.prog.cellsOf 255=64:=by kernel_rfl
theorem tabIs {W:World}(h:laidMetH Tryz.prog Rows.danceApartRow.laid W):Lib.TabIs Tryz.prog W "math/bits.deBruijn64tab" .u8 Fc:=
 Lib.tabIs_of_head gN gT Tryz.underlying255 Tryz.underlying5 cE cT (rest:=[]) h
theorem tab {W:World}(h:laidMetH Tryz.prog Rows.danceApartRow.laid W):Tab (qd W T (Gx gN (tabIs h) (by decide))):=Jt rfl
noncomputable def laidWorld (os:Os):World:=
 let w0:=World.holding Tryz.prog os ⟨#[],#[],[]⟩
 { w0 with heap:=w0.heap.modify 0 fun
   | .cells _ t frozen=>.cells #[.int .u8 0,.int .u8 1,.int .u8 56,.int .u8 2,.int .u8 57,.int .u8 49,.int .u8 28,.int .u8 3,.int .u8 61,.int .u8 58,.int .u8 42,.int .u8 50,.int .u8 38,.int .u8 29,.int .u8 17,.int .u8 4,.int .u8 62,.int .u8 47,.int .u8 59,.int .u8 36,.int .u8 45,.int .u8 43,.int .u8 51,.int .u8 22,.int .u8 53,.int .u8 39,.int .u8 33,.int .u8 30,.int .u8 24,.int .u8 18,.int .u8 12,.int .u8 5,.int .u8 63,.int .u8 55,.int .u8 48,.int .u8 27,.int .u8 60,.int .u8 41,.int .u8 37,.int .u8 16,.int .u8 46,.int .u8 35,.int .u8 44,.int .u8 21,.int .u8 52,.int .u8 32,.int .u8 23,.int .u8 11,.int .u8 54,.int .u8 26,.int .u8 40,.int .u8 15,.int .u8 34,.int .u8 20,.int .u8 31,.int .u8 10,.int .u8 25,.int .u8 14,.int .u8 19,.int .u8 9,.int .u8 13,.int .u8 8,.int .u8 7,.int .u8 6] t frozen
   | o=>o }
theorem laidWorld_met (os:Os) (args:Array Value):laidMetH Tryz.prog Rows.danceApartRow.laid ((laidWorld os).forCall (fun _ _=>0) ⟨#[],args,[]⟩).memory:=
 laidMetH_of_parts (laidMet_of_run' 8 (by kernel_rfl) (by kernel_rfl)) (by kernel_rfl)
theorem weights_of {H:Type}{vars:List TypeId}{ts:List TypeId}{ds gs:List (DataW H)}(hg:gs=[]) (hv:vars=[]) (hs:(DataW.weightsEach Tryz.prog (ts++vars) (ds++gs)).all (·≤reachBytes)=true) :
  ∀ n∈DataW.weightsEach Tryz.prog ts ds,n≤reachBytes:=by
 subst hg hv
 rw[List.append_nil,List.append_nil]at hs
 simpa using hs
set_option maxRecDepth 100000 in
theorem lifted (os:Os) (started:os.Started) (H:Type) (enc:TypeId×Value->H) :
  ReturnsInHanded {} Tryz.checked os 9 .any (fun w args=>(Rows.danceApartSpec.pre enc Tryz.prog Tryz.f9 Rows.danceApartRow.domain false w args/\laidMetH Tryz.prog Rows.danceApartRow.laid w)/\sizedMet enc Tryz.prog Tryz.f9 (OpenSpec.ofChange Rows.danceApartSpec) false w args)
   (Rows.danceApartSpec.post enc Tryz.prog Tryz.f9 false true false false):=by
 refine returnsInHanded_of_change_and (C:=Tryz.checked) (X:=fun w _=>laidMetH Tryz.prog Rows.danceApartRow.laid w) (fun _ _ _ hh h=>h.of_heap hh) own started (by kernel_rfl) Tryz.func9
  (ChangeSpec.witness_at (enc:=enc) (C:=Tryz.checked) (os:=os) (X:=fun w _=>laidMetH Tryz.prog Rows.danceApartRow.laid w) false (laidWorld os) #[.agg #[.int .i64 0,.int .i64 0,.int .u8 0,.int .u8 0,.int .u8 0,.int .u8 0,.int .u8 0,.int .u8 0,.int .u8 0,.int .u8 0,.int .u8 0,.int .u8 0,.int .u8 0,.int .u8 0,.int .u8 0,.int .u8 0,.int .u8 0,.int .u8 0,.int .u8 0,.int .u8 0,.int .u8 0,.int .u8 0,.int .u8 0,.int .u8 0,.int .u8 0,.int .u8 0,.int .u8 0,.int .u8 0,.int .u8 0,.int .u8 0,.int .u8 0,.int .u8 0,.int .u8 0,.int .u8 0,.int .u8 0,.int .u8 0,.int .u8 0,.int .u8 0,.int .u8 0,.int .u8 0,.int .u8 0,.int .u8 0,.int .u8 0,.int .u8 0,.int .u8 0,.int .u8 0,.int .u8 0,.int .u8 0,.int .u8 0,.int .u8 0,.int .u8 0,.int .u8 0,.int .u8 0,.int .u8 0,.int .u8 0,.int .u8 0,.int .u8 0,.int .u8 0,.int .u8 0,.int .u8 0,.int .u8 0,.int .u8 0,.int .u8 0,.int .u8 0,.int .u8 0,.int .u8 0,.int .u8 0,.int .u8 0,.int .u8 0,.int .u8 0,.int .u8 0,.int .u8 0,.int .u8 0,.int .u8 0,.int .u8 0,.int .u8 0,.int .u8 0,.int .u8 0,.int .u8 0,.int .u8 0,.int .u8 0,.int .u8 0,.int .u8 0,.int .u8 0,.int .u8 0,.int .u8 0,.int .u8 0,.int .u8 0,.int .u8 0,.int .u8 0,.int .u8 0,.int .u8 0,.int .u8 0,.int .u8 0,.int .u8 0,.int .u8 0,.int .u8 0,.int .u8 0,.int .u8 0,.int .u8 0,.int .u8 0,.int .u8 0,.int .u8 0,.int .u8 0,.int .u8 0,.int .u8 0,.int .u8 0,.int .u8 0,.int .u8 0,.int .u8 0,.int .u8 0,.int .u8 0,.int .u8 0,.int .u8 0,.int .u8 0,.int .u8 0,.int .u8 0,.int .u8 0,.int .u8 0,.int .u8 0,.int .u8 0,.int .u8 0,.int .u8 0,.int .u8 0,.int .u8 0,.int .u8 0,.int .u8 0,.int .u8 0,.int .u8 0,.int .u8 0],.slice none 0 0] 8 rfl (by kernel_rfl) (by kernel_rfl) (by kernel_rfl) (by kernel_rfl) (by kernel_rfl) (laidWorld_met os _)) ?_
 intro W base args ds gs before hval hW hcnd hsz hL _
 have hg:gs=[]:=by
  obtain⟨p,q,_,hV,_⟩:=hW
  exact (ChangeShapes.trodVars_none hV).1
 refine Js (d:=6) (tb:=4) K2 (Gx gN (tabIs hL) (by decide)) laidOut Tryz.func9 (by kernel_rfl) (by kernel_rfl) (by kernel_rfl) (by kernel_rfl) rfl (by kernel_rfl) Tryz.underlying4 (fun hl=>by
  have hl:ds.length=2:=hl.trans (by kernel_rfl)
  match ds,hl with
  | [xa,xb],_=>exact⟨rfl,rfl,rfl⟩) hval hW (weights_of hg rfl hsz) fun avs ms hwt hsum=>?_
 ·rw[Tryz.params9]at hwt
  obtain⟨a,avs,ma,ms,rfl,rfl,ha,hwt⟩:=Dt hwt
  obtain⟨b,avs,mb,ms,rfl,rfl,hb,hwt⟩:=Dt hwt
  obtain⟨rfl,rfl⟩:=J6 hwt
  exact acf (tab hL) ha hb
theorem over:Rows.danceApartRow.holds Tryz.pinned (OpenSpec.ofChange Rows.danceApartSpec):=
 OpenClaim.holds_of_wide 9 Tryz.f9 rfl rfl rfl rfl rfl rfl rfl ⟨rfl,rfl,rfl,rfl,rfl⟩ rfl rfl rfl rfl rfl (by kernel_rfl) Tryz.func9 (by kernel_rfl)
  (of_decide_eq_true (by kernel_rfl)) (by unfold Func.isWrapper;first | (rw[if_pos (by decide +kernel)];kernel_rfl) | (rw[if_neg (by decide +kernel)];exact⟨rfl,rfl⟩))
  (fun os started H enc _=>lifted os started H enc)
theorem wants:∀ (j:Nat) (t:TypeId),Tryz.f9.params[j]?=some t->Tryz.prog.wantsStandIn t=false:=by
 intro j t ht
 rw[Tryz.params9]at ht
 have hl:=(Array.getElem?_eq_some_iff.1 ht).1
 match j,hl,ht with
 | 0,_,ht=>exact Option.some.inj (show some 26=some t from ht)▸(show Tryz.prog.wantsStandIn 26=false by kernel_rfl)
 | 1,_,ht=>exact Option.some.inj (show some 27=some t from ht)▸(show Tryz.prog.wantsStandIn 27=false by kernel_rfl)
 | j+2,hl,_=>exact absurd hl (by simp)
theorem card:Claim7.holds Tryz.pinned (.plain (OpenSpec.ofChange Rows.danceApartSpec)) Rows.danceApartCard:=
 Claim7.holds_tied_plain_at .later [] [.data] true (true,"35e75812772031919e6c66031fd79ca5390eb81c7b3d72923df80e90aa44b87f") false
  over (fun _ h=>by cases h) (by kernel_rfl) (fun _ h=>by cases h) danceApart_row_tie rfl ⟨rfl,rfl⟩ (by kernel_rfl) rfl
  (fun f fn hf hfn=>by
   obtain rfl:f=9:=Option.some.inj ((show Tryz.prog.funcNamed "escrow/escrowlaw15.DanceApart"=some 9 by kernel_rfl).symm.trans hf) |>.symm
   obtain rfl:fn=Tryz.f9:=(Option.some.inj (Tryz.func9.symm.trans hfn)).symm
   exact⟨by kernel_rfl,wants⟩)
  (by kernel_rfl)
end Go.Proofs.YtkojimdacnohpaaGreatDoor.danceApart
namespace Go.Proofs.YtkojimdacnohpaaGreatDoor
theorem danceApart_holds:Rows.DanceApartCardSaid:=danceApart.card
end Go.Proofs.YtkojimdacnohpaaGreatDoor
