import Derived.Test.YtkojimdacnohpaaGreatDoorER
import Derived.ChangeArms
import Derived.ProofKit
import Derived.OpenShut
import Derived.ShutString
import Derived.ChangeOld
import Derived.Below
import Derived.JoinedCond
import Derived.SizedLaws
import Derived.KernelRfl
set_option linter.unusedSimpArgs false
set_option linter.unusedVariables false
set_option linter.unusedSectionVars false
namespace Go.Esc
open Go Go.RowKit
mutual
def bulk {H:Type}:DataW H->Nat
 | .lit (.string bytes)=>bytes.length+1
 | .lit _=>1
 | .nil=>1
 | .ptr d=>bulk d+1
 | .slice elems spare=>ky elems+ky spare+1
 | .agg parts=>ky parts+1
 | .iface _ d=>bulk d+1
 | .map entries=>yA entries+1
 | .held _=>1
def ky {H:Type}:List (DataW H)->Nat
 | []=>0
 | d :: r=>bulk d+ky r
def yA {H:Type}:List (Lit×DataW H)->Nat
 | []=>0
 | x :: r=>Ia x+yA r
def Ia {H:Type}:Lit×DataW H->Nat
 | (.string bytes,d)=>bytes.length+bulk d+1
 | (_,d)=>bulk d+1
end
theorem tG {H:Type}:∀ (a b:List (DataW H)),ky (a++b)=ky a+ky b
 | [],b=>by simp[ky]
 | x :: a,b=>by simp[ky,tG a b];omega
def ql:Nat:=4294967296
def Gj (d e cap:Nat):Nat:=8 * (ql * cap+e)+d+1
def Hc (f:TypeId->List Value->Option ah) (T:Tbl) (cs:List Value):List (TypeId×Nat)->Option (List ah)
 | []=>some []
 | g :: fs=>match T g.1 with
  | some i=>match f g.1 ((cs.drop g.2).take i.size),Hc f T cs fs with
   | some v,some l=>some (v :: l)
   | _,_=>none
  | none=>none
def Hd (f:List Value->Option ah) (s:Nat) (cs:List Value):Nat->Nat->Option (List ah)
 | _,0=>some []
 | k,n+1=>match f ((cs.drop (k * s)).take s),Hd f s cs (k+1) n with
  | some v,some l=>some (v :: l)
  | _,_=>none
def xN (T:Tbl):Nat->TypeId->List Value->Option ah
 | 0,_,_=>none
 | d+1,t,cs=>match T t with
  | none=>none
  | some i=>match i.desc with
   | .bool=>match cs with
    | [.bool b]=>some (.bool b)
    | _=>none
   | .int k=>match cs with
    | [.int k' n]=>if k'=k then some (.int k n) else none
    | _=>none
   | .string=>match cs with
    | [.string s]=>some (.str s.data.toList)
    | _=>none
   | .slice e=>match cs with
    | [.slice none 0 0]=>some .nilSlice
    | [.slice (some a) len cap]=>some (.slice ⟨a.block,a.off,Gj d e cap⟩ [] 0 0 len cap)
    | _=>none
   | .struct fs=>match Hc (xN T d) T cs fs with
    | some l=>some (.agg l)
    | none=>none
   | .array n e=>match T e with
    | some ie=>match Hd (xN T d e) ie.size cs 0 n with
     | some l=>some (.agg l)
     | none=>none
    | none=>none
   | _=>none
def GD (W:World) (T:Tbl) (d:Nat) (e:TypeId) (s b o:Nat):Nat->Nat->Option (List ah)
 | _,0=>some []
 | k,n+1=>match (W.cells? 0 ⟨b,o+k * s,none⟩ s).bind (xN T d e),GD W T d e s b o (k+1) n with
  | some v,some l=>some (v :: l)
  | _,_=>none
open Classical in
noncomputable def roW (W:World) (T:Tbl) (id:AId):Option ah:=
 match id.win with
 | 0=>none
 | m+1=>
  match T (m / 8 % ql) with
  | some ie=>match GD W T (m % 8) (m / 8 % ql) ie.size id.block id.start 0 (m / 8 / ql) with
   | some cs=>if id.block < W.heap.size/\∀ j u,(flat (.agg cs))[j]?=some u->W.cell? ⟨id.block,id.start+j,none⟩=some u then some (.agg cs) else none
   | none=>none
  | none=>none
theorem Hq {d e cap:Nat}(hd:d < 8) (he:e < ql):∃ m,Gj d e cap=m+1/\m % 8=d/\m / 8 % ql=e/\m / 8 / ql=cap:=by
 refine⟨8 * (ql * cap+e)+d,rfl,by omega,?_,?_⟩
 ·have:(8 * (ql * cap+e)+d) / 8=ql * cap+e:=by omega
  rw[this];unfold ql at *;omega
 ·have:(8 * (ql * cap+e)+d) / 8=ql * cap+e:=by omega
  rw[this];unfold ql at *;omega
noncomputable def zf (W:World) (T:Tbl):lq where
 w0:=W
 prot:=fun b=>b < W.heap.size
 lt:=fun _ h=>h
 ro:=roW W T
 cells:=fun id t h=>by
  unfold roW at h
  split at h
  ·cases h
  ·split at h
   ·split at h
    ·split at h
     ·rename_i hc
      injection h with h;subst h
      exact hc
     ·cases h
    ·cases h
   ·cases h
noncomputable def nP (W:World) (T:Tbl):ak:=fun id=>(roW W T id).map .ro
theorem LY (W:World) (T:Tbl):Rel (zf W T) (nP W T) W:=by
 refine⟨rfl,rfl,rfl,Nat.le_refl _,fun _ _=>rfl,fun id o ho=>?_⟩;simp only[nP,Option.map_eq_some_iff]at ho;obtain⟨t,ht,rfl⟩:=ho;exact ht
theorem JT {W:World}{T:Tbl}{G':ak}{w':World}(h:Rel (zf W T) G' w'):Below W.heap.size W w':=
 ⟨h.os,h.tape,h.output,h.size,fun k hk=>h.qU k hk⟩
def wts (f:ah->Nat->Prop):List ah->List Nat->Prop
 | [],[]=>True
 | c :: cs,m :: ms=>f c m/\wts f cs ms
 | _,_=>False
def wfs (f:TypeId->ah->Nat->Prop):List (TypeId×Nat)->List ah->List Nat->Prop
 | [],[],[]=>True
 | g :: fs,c :: cs,m :: ms=>f g.1 c m/\wfs f fs cs ms
 | _,_,_=>False
def wt (T:Tbl) (G:ak) (R:Nat):Nat->TypeId->ah->Nat->Prop
 | 0,_,_,_=>False
 | d+1,t,v,m=>match T t with
  | none=>False
  | some i=>match i.desc with
   | .bool=>∃ b,v=.bool b/\m=1
   | .int k=>∃ n,v=.int k n/\(Lit.int k n).wf=true/\m=1
   | .string=>∃ l,v=.str l/\l.length≤R/\l.length≤maxLen/\m=l.length+1
   | .slice e=>match T e with
    | none=>False
    | some ie=>(v=.nilSlice/\m=1)\/∃ id len cap cs ms,v=.slice id [] 0 0 len cap/\len≤cap/\cap≤maxLen/\cap * ie.bytes≤R ∧
     G id=some (.ro (.agg cs))/\cs.length=cap/\uni ie.size cs=true/\mz cs=true/\wts (wt T G R d e) cs ms/\m=ms.sum+1
   | .struct fs=>∃ cs ms,v=.agg cs/\wfs (wt T G R d) fs cs ms/\m=ms.sum+1
   | .array n e=>∃ cs ms,v=.agg cs/\cs.length=n/\wts (wt T G R d e) cs ms/\m=ms.sum+1
   | _=>False
def GW (T:Tbl):List (TypeId×Nat)->Nat->Nat->Bool
 | [],o,n=>Nat.beq o n
 | g :: fs,o,n=>match T g.1 with
  | some i=>Nat.beq g.2 o && GW T fs (o+i.size) n
  | none=>false
def sup (T:Tbl):Nat->Bool->TypeId->Bool
 | 0,_,_=>false
 | d+1,sl,t=>match T t with
  | none=>false
  | some i=>match i.desc with
   | .bool | .int _ | .string=>Nat.beq i.size 1
   | .slice e=>sl && Nat.beq i.size 1 && Nat.blt d 8 && Nat.blt e ql && sup T d false e
   | .struct fs=>GW T fs 0 i.size && fs.all fun g=>sup T d sl g.1
   | .array n e=>match T e with
    | some ie=>Nat.beq i.size (n * ie.size) && sup T d sl e
    | none=>false
   | _=>false
section
variable {H:Type}{enc:TypeId×Value->H}{P:Program}{T:Tbl} (hT:gF P T) {W:World}
theorem trod_array {base:Nat}{spare:Nat->Bool}{held:Bool}{fuel n:Nat}{t e:TypeId}{cs:List Value}{x:DataW H×List MemPlace}(ht:P.underlying t=some (.array n e)) (h:DataW.trod enc P W base spare held fuel t cs=some x) :
  ∃ (xs:List (DataW H×List MemPlace)) (m:Nat),fuel=m+1/\x=(.agg (xs.map (·.1)),xs.flatMap (·.2))/\cs.length=P.cellsOf t/\xs.length=n ∧
   ∀ i,i < n->DataW.trod enc P W base spare held m e ((cs.drop (i * P.cellsOf e)).take (P.cellsOf e))=xs[i]?:=by
 cases fuel with
 | zero=>simp[DataW.trod]at h
 | succ m=>
  unfold DataW.trod at h;rw[ht]at h;split at h<;>simp_all;obtain⟨hl,xs,hp,hd⟩:=h;exact⟨xs,hd.symm,by simpa using mapM_some_length hp,fun i hi=>mapM_some_get hp i i (by simp[hi])⟩
theorem qn {t:TypeId}{i:TI}(h:gl P t i):P.cellsOf t=i.size:=by
 obtain⟨inf,h1,h2,_⟩:=h.info;simp[Program.cellsOf,h1,h2]
theorem FY {t:TypeId}{i:TI}(h:gl P t i):P.bytesOf t=i.bytes:=by
 obtain⟨inf,h1,_,h2,_⟩:=h.info;simp[Program.bytesOf,h1,h2]
end
end Go.Esc
