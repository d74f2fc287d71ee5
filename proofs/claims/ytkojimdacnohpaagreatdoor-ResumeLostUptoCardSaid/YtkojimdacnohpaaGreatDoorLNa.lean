import Derived.Test.YtkojimdacnohpaaGreatDoorLMe
import Derived.Test.YtkojimdacnohpaaGreatDoorLUj
import Derived.Test.YtkojimdacnohpaaGreatDoorLHa
import Derived.Test.YtkojimdacnohpaaGreatDoorLUb
import Derived.Test.YtkojimdacnohpaaGreatDoorLVc
set_option linter.unusedSimpArgs false
set_option linter.unusedVariables false
set_option maxRecDepth 20000
namespace Go.Esc.M
open Go Go.Esc
section
variable {F0:List AId} {G0 G:ah} {ps:List LP} {Q:ag -> ah -> Prop}
end
end Go.Esc.M
set_option linter.unusedSimpArgs false
set_option linter.unusedVariables false
set_option maxRecDepth 20000
namespace Go.Esc.M
open Go Go.Esc
section
variable {F0:List AId} {G0 G:ah} {ps:List LP} {Q:ag -> ah -> Prop}
end
end Go.Esc.M
set_option linter.unusedSimpArgs false
set_option linter.unusedVariables false
set_option maxRecDepth 20000
namespace Go.Esc.M
open Go Go.Esc
end Go.Esc.M
set_option linter.unusedSimpArgs false
set_option linter.unusedVariables false
set_option maxRecDepth 20000
namespace Go.Esc.M
open Go Go.Esc
end Go.Esc.M
set_option linter.unusedSimpArgs false
set_option linter.unusedVariables false
set_option maxRecDepth 20000
namespace Go.Esc.M
open Go Go.Esc
section
variable {F0:List AId} {G0 G:ah} {ps:List LP} {Q:ag -> ah -> Prop}
end
end Go.Esc.M
set_option linter.unusedSimpArgs false
set_option linter.unusedVariables false
set_option maxRecDepth 20000
namespace Go.Esc.M
open Go Go.Esc
section
variable {F0:List AId} {G0 G:ah} {ps:List LP} {Q:ag -> ah -> Prop}
end
end Go.Esc.M
set_option linter.unusedSimpArgs false
set_option linter.unusedVariables false
set_option maxRecDepth 20000
namespace Go.Esc.M
open Go Go.Esc
end Go.Esc.M
set_option linter.unusedSimpArgs false
set_option linter.unusedVariables false
set_option maxRecDepth 20000
namespace Go.Esc.M
open Go Go.Esc
section
variable {F0:List AId} {G0 G:ah} {ps:List LP} {Q:ag -> ah -> Prop}
end
end Go.Esc.M
set_option linter.unusedSimpArgs false
set_option linter.unusedVariables false
set_option maxRecDepth 20000
namespace Go.Esc.M
open Go Go.Esc
section
variable {F0:List AId} {G0 G:ah} {ps:List LP} {Q:ag -> ah -> Prop}
end
end Go.Esc.M
set_option linter.unusedSimpArgs false
set_option linter.unusedVariables false
set_option maxRecDepth 20000
namespace Go.Esc.M
open Go Go.Esc
def hx:List UInt8:=[49,50,51,52,53,54,55,56,57,48,49,50,51,52,53,54,55,56,57,48,49,50,51,52,53,54,55,56,57,48,49,50]
def b4:List UInt8:=[4,0,0,0,0,0,0,1,2] ++ hx
def m4:bA:=⟨4,0,0,258,0,hx,h0,[]⟩
def m7:bA:=⟨7,0,0,3,0,h0,h0,[]⟩
section
variable {F0:List AId} {G0 G:ah} {ps:List LP} {Q:ag -> ah -> Prop}
end
end Go.Esc.M
set_option linter.unusedSimpArgs false
set_option linter.unusedVariables false
set_option maxRecDepth 20000
namespace Go.Esc.M
open Go Go.Esc
end Go.Esc.M
set_option linter.unusedSimpArgs false
set_option linter.unusedVariables false
set_option maxRecDepth 20000
namespace Go.Esc.M
open Go Go.Esc
end Go.Esc.M
set_option linter.unusedSimpArgs false
set_option linter.unusedVariables false
set_option maxRecDepth 20000
namespace Go.Esc.M
open Go Go.Esc
end Go.Esc.M
set_option linter.unusedSimpArgs false
set_option linter.unusedVariables false
set_option maxRecDepth 20000
namespace Go.Esc.M
open Go Go.Esc
section
variable {F0:List AId} {G0 G:ah} {ps:List LP} {Q:ag -> ah -> Prop}
end
end Go.Esc.M
set_option linter.unusedSimpArgs false
set_option linter.unusedVariables false
set_option maxRecDepth 20000
namespace Go.Esc.M
open Go Go.Esc
structure StF where
 s:StM
 o:List aK
 p:List aK
 h:List cB
structure kW (G:ah) (f:StF) (vo vp vh:ag):Prop where
 ok:f.s.ok
 o:iu 36 G vo (f.o.map aK.av)
 p:iu 36 G vp (f.p.map aK.av)
 h:iu 34 G vh (f.h.map cB.av)
 oko:∀ u ∈ f.o,u.ok
 okp:∀ u ∈ f.p,u.ok
 okh:∀ x ∈ f.h,x.ok
 lo:f.o.length ≤ 1048576
 lp:f.p.length ≤ 1048576
 lh:f.h.length * 48 ≤ 140737488351232
theorem B0 {n:Nat} {G:ah} {v:ag} {vs:List ag} (h:iu n G v vs):bz v:=by
 rcases h with ⟨_,_,_,_,_,_,rfl,_⟩ | ⟨rfl,_⟩ <;> exact ⟨rfl,rfl,rfl⟩
theorem kW.lv {G:ah} {f:StF} {vo vp vh:ag} (h:kW G f vo vp vh):bz vo /\ bz vp /\ bz vh:=⟨B0 h.o,B0 h.p,B0 h.h⟩
theorem kW.mv {G G':ah} {E:List AId} {f:StF} {vo vp vh:ag} (h:kW G f vo vp vh) (hc:Ch [] G E G'):kW G' f vo vp vh :=
 ⟨h.ok,h.o.mv hc,h.p.mv hc,h.h.mv hc,h.oko,h.okp,h.okh,h.lo,h.lp,h.lh⟩
def nK (s:StM):Int:=if s.heldA < s.atA then s.heldA else s.atA
def ng (s:StM):Int:=if s.heldB < s.atB then s.heldB else s.atB
def xg (s:StM):Bool:=!decide (s.failed = 0) || !decide (s.closed = -1)
def AE (f:StF):Bool:=decide (2048 ≤ f.o.length) || decide (512 ≤ IntKind.i64.wrap ((f.o.length:Int) - f.s.heldA))
def vP (f:StF):Int:=Bq f.s.bo f.o f.p (nK f.s) (ng f.s)
def vN (f:StF):Int:=Bq f.s.bp f.p f.o (ng f.s) (nK f.s)
def RcM.zero:RcM:=⟨0,aK.zero,0,0,0,h0,h0,h0,0⟩
theorem RcM.bD:RcM.zero.ok:=⟨cD,aK.bD,cD,cD,cD,rfl,rfl,rfl,cD⟩
def rcZ:List ag:=RcM.zero.cs .nilSlice
theorem DM:iY = RcM.zero.av .nilSlice:=rfl
theorem vd {parts:List (Nat × ag)} {r:RcM} {v:ag} (hs:∀ p ∈ parts,rcZ[p.1]?.map Esc.sz = some (Esc.sz p.2)) (he:pk rcZ parts = r.cs v):bk T aD parts = some (r.av v):=by
 refine (jK (zs:=rcZ) oV rfl rfl rfl (n9 rfl) hs).trans ?_
 rw [he]; rfl
theorem AO:bk T aD [] = some (RcM.zero.av .nilSlice):=rfl
def pR (u:aK):RcM:={ RcM.zero with kind:=1,upd:=u }
theorem gQ (n:Int) (h0:-9223372036854775808 ≤ n) (h1:n ≤ 9223372036854775807):I64 n:=⟨h0,h1⟩
theorem lG {u:aK} (h:u.ok):(pR u).ok:=⟨gQ 1 (by decide) (by decide),h,cD,cD,cD,rfl,rfl,rfl,cD⟩
section
variable {F0:List AId} {G0 G:ah} {ps:List LP} {Q:ag -> ah -> Prop}
theorem uf {u:aK} (h:u.ok):bk T aD [(0,.int .i64 1),(1,u.av)] = some ((pR u).av .nilSlice):=by
 refine vd (fun p hp=>?_) rfl
 simp only [List.mem_cons,List.not_mem_nil,or_false] at hp
 rcases hp with rfl | rfl
 ·rfl
 ·show some (Esc.sz aK.zero.av) = some (Esc.sz u.av)
  rw [aK.sz h,aK.sz aK.bD]
theorem nu {j:Nat} {i:AId} {e:Int} {v:ag} {r:RcM} (s:Sp F0 G ps G0) (hj:ps[j]? = some (ar i (r.av v))) (hr:r.ok) (hv:bz v) (hQ:∀ G',Sp F0 G (ps.set j (ar i (RcM.zero.av .nilSlice))) G' -> Q (.tuple [RcM.zero.av .nilSlice,.int .i64 e]) G') :
  wv (bk T aD []) fun v17=>wg (ax T G0 aD (.ptr i [] 0) v17) fun G18=>wv (af T G18 aD (.ptr i [] 0)) fun v19=>Q (.tuple [v19,.int .i64 e]) G18:=by
 refine ae AO ?_
 refine Rc.st s hj hr hv RcM.bD bz.nil fun G18 s18=>?_
 refine ae (Rc.ld (ar.own (i:=j) s18 (by rw [List.getElem?_set_self (List.getElem?_eq_some_iff.1 hj).1])) RcM.bD bz.nil) ?_
 exact hQ G18 s18
end
end Go.Esc.M
