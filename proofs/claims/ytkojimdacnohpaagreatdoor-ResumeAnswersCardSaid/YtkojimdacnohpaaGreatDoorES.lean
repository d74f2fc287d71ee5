import Derived.Test.YtkojimdacnohpaaGreatDoorER
import Derived.ChangeArms
import Derived.ProofKit
import Derived.OpenShut
import Derived.ShutString
import Derived.ChangeOld
import Derived.Below
import Derived.JoinedCond
import Derived.SizedLaws
import Derived.KernelRfl
set_option linter.unusedSimpArgs false
set_option linter.unusedVariables false
set_option linter.unusedSectionVars false
namespace Go.Esc
open Go Go.RowKit
mutual
def bulk {H:Type}:DataW H -> Nat
 | .lit (.string bytes)=>bytes.length + 1
 | .lit _=>1
 | .nil=>1
 | .ptr d=>bulk d + 1
 | .slice elems spare=>iU elems + iU spare + 1
 | .agg parts=>iU parts + 1
 | .iface _ d=>bulk d + 1
 | .map entries=>oC entries + 1
 | .held _=>1
def iU {H:Type}:List (DataW H) -> Nat
 | []=>0
 | d :: r=>bulk d + iU r
def oC {H:Type}:List (Lit × DataW H) -> Nat
 | []=>0
 | x :: r=>wy x + oC r
def wy {H:Type}:Lit × DataW H -> Nat
 | (.string bytes,d)=>bytes.length + bulk d + 1
 | (_,d)=>bulk d + 1
end
theorem sf {H:Type}:∀ (a b:List (DataW H)),iU (a ++ b) = iU a + iU b
 | [],b=>by simp [iU]
 | x :: a,b=>by simp [iU,sf a b]; omega
def pC:Nat:=4294967296
def E3 (d e cap:Nat):Nat:=8 * (pC * cap + e) + d + 1
def FM (f:TypeId -> List Value -> Option ag) (T:Tbl) (cs:List Value):List (TypeId × Nat) -> Option (List ag)
 | []=>some []
 | g :: fs=>match T g.1 with
  | some i=>match f g.1 ((cs.drop g.2).take i.size),FM f T cs fs with
   | some v,some l=>some (v :: l)
   | _,_=>none
  | none=>none
def FN (f:List Value -> Option ag) (s:Nat) (cs:List Value):Nat -> Nat -> Option (List ag)
 | _,0=>some []
 | k,n + 1=>match f ((cs.drop (k * s)).take s),FN f s cs (k + 1) n with
  | some v,some l=>some (v :: l)
  | _,_=>none
def wu (T:Tbl):Nat -> TypeId -> List Value -> Option ag
 | 0,_,_=>none
 | d + 1,t,cs=>match T t with
  | none=>none
  | some i=>match i.desc with
   | .bool=>match cs with
    | [.bool b]=>some (.bool b)
    | _=>none
   | .int k=>match cs with
    | [.int k' n]=>if k' = k then some (.int k n) else none
    | _=>none
   | .string=>match cs with
    | [.string s]=>some (.str s.data.toList)
    | _=>none
   | .slice e=>match cs with
    | [.slice none 0 0]=>some .nilSlice
    | [.slice (some a) len cap]=>some (.slice ⟨a.block,a.off,E3 d e cap⟩ [] 0 0 len cap)
    | _=>none
   | .struct fs=>match FM (wu T d) T cs fs with
    | some l=>some (.agg l)
    | none=>none
   | .array n e=>match T e with
    | some ie=>match FN (wu T d e) ie.size cs 0 n with
     | some l=>some (.agg l)
     | none=>none
    | none=>none
   | _=>none
def Fo (W:World) (T:Tbl) (d:Nat) (e:TypeId) (s b o:Nat):Nat -> Nat -> Option (List ag)
 | _,0=>some []
 | k,n + 1=>match (W.cells? 0 ⟨b,o + k * s,none⟩ s).bind (wu T d e),Fo W T d e s b o (k + 1) n with
  | some v,some l=>some (v :: l)
  | _,_=>none
open Classical in
noncomputable def roW (W:World) (T:Tbl) (id:AId):Option ag :=
 match id.win with
 | 0=>none
 | m + 1=>
  match T (m / 8 % pC) with
  | some ie=>match Fo W T (m % 8) (m / 8 % pC) ie.size id.block id.start 0 (m / 8 / pC) with
   | some cs=>if id.block < W.heap.size /\ ∀ j u,(flat (.agg cs))[j]? = some u -> W.cell? ⟨id.block,id.start + j,none⟩ = some u then some (.agg cs) else none
   | none=>none
  | none=>none
theorem F7 {d e cap:Nat} (hd:d < 8) (he:e < pC):∃ m,E3 d e cap = m + 1 /\ m % 8 = d /\ m / 8 % pC = e /\ m / 8 / pC = cap:=by
 refine ⟨8 * (pC * cap + e) + d,rfl,by omega,?_,?_⟩
 ·have:(8 * (pC * cap + e) + d) / 8 = pC * cap + e:=by omega
  rw [this]
  unfold pC at *
  omega
 ·have:(8 * (pC * cap + e) + d) / 8 = pC * cap + e:=by omega
  rw [this]
  unfold pC at *
  omega
noncomputable def xU (W:World) (T:Tbl):j1 where
 w0:=W
 prot:=fun b=>b < W.heap.size
 lt:=fun _ h=>h
 ro:=roW W T
 cells:=fun id t h=>by
  unfold roW at h
  split at h
  ·cases h
  ·split at h
   ·split at h
    ·split at h
     ·rename_i hc
      injection h with h; subst h
      exact hc
     ·cases h
    ·cases h
   ·cases h
noncomputable def mB (W:World) (T:Tbl):ah:=fun id=>(roW W T id).map .ro
theorem KY (W:World) (T:Tbl):Rel (xU W T) (mB W T) W:=by
 refine ⟨rfl,rfl,rfl,Nat.le_refl _,fun _ _=>rfl,fun id o ho=>?_⟩
 simp only [mB,Option.map_eq_some_iff] at ho
 obtain ⟨t,ht,rfl⟩:=ho
 exact ht
theorem I4 {W:World} {T:Tbl} {G':ah} {w':World} (h:Rel (xU W T) G' w'):Below W.heap.size W w' :=
 ⟨h.os,h.tape,h.output,h.size,fun k hk=>h.p9 k hk⟩
def wts (f:ag -> Nat -> Prop):List ag -> List Nat -> Prop
 | [],[]=>True
 | c :: cs,m :: ms=>f c m /\ wts f cs ms
 | _,_=>False
def wfs (f:TypeId -> ag -> Nat -> Prop):List (TypeId × Nat) -> List ag -> List Nat -> Prop
 | [],[],[]=>True
 | g :: fs,c :: cs,m :: ms=>f g.1 c m /\ wfs f fs cs ms
 | _,_,_=>False
def wt (T:Tbl) (G:ah) (R:Nat):Nat -> TypeId -> ag -> Nat -> Prop
 | 0,_,_,_=>False
 | d + 1,t,v,m=>match T t with
  | none=>False
  | some i=>match i.desc with
   | .bool=>∃ b,v = .bool b /\ m = 1
   | .int k=>∃ n,v = .int k n /\ (Lit.int k n).wf = true /\ m = 1
   | .string=>∃ l,v = .str l /\ l.length ≤ R /\ l.length ≤ maxLen /\ m = l.length + 1
   | .slice e=>match T e with
    | none=>False
    | some ie=>(v = .nilSlice /\ m = 1) \/ ∃ id len cap cs ms,v = .slice id [] 0 0 len cap /\ len ≤ cap /\ cap ≤ maxLen /\ cap * ie.bytes ≤ R ∧
     G id = some (.ro (.agg cs)) /\ cs.length = cap /\ uni ie.size cs = true /\ kT cs = true /\ wts (wt T G R d e) cs ms /\ m = ms.sum + 1
   | .struct fs=>∃ cs ms,v = .agg cs /\ wfs (wt T G R d) fs cs ms /\ m = ms.sum + 1
   | .array n e=>∃ cs ms,v = .agg cs /\ cs.length = n /\ wts (wt T G R d e) cs ms /\ m = ms.sum + 1
   | _=>False
def FF (T:Tbl):List (TypeId × Nat) -> Nat -> Nat -> Bool
 | [],o,n=>Nat.beq o n
 | g :: fs,o,n=>match T g.1 with
  | some i=>Nat.beq g.2 o && FF T fs (o + i.size) n
  | none=>false
def sup (T:Tbl):Nat -> Bool -> TypeId -> Bool
 | 0,_,_=>false
 | d + 1,sl,t=>match T t with
  | none=>false
  | some i=>match i.desc with
   | .bool | .int _ | .string=>Nat.beq i.size 1
   | .slice e=>sl && Nat.beq i.size 1 && Nat.blt d 8 && Nat.blt e pC && sup T d false e
   | .struct fs=>FF T fs 0 i.size && fs.all fun g=>sup T d sl g.1
   | .array n e=>match T e with
    | some ie=>Nat.beq i.size (n * ie.size) && sup T d sl e
    | none=>false
   | _=>false
section
variable {H:Type} {enc:TypeId × Value -> H} {P:Program} {T:Tbl} (hT:gl P T) {W:World}
theorem trod_array {base:Nat} {spare:Nat -> Bool} {held:Bool} {fuel n:Nat} {t e:TypeId} {cs:List Value} {x:DataW H × List MemPlace} (ht:P.underlying t = some (.array n e)) (h:DataW.trod enc P W base spare held fuel t cs = some x) :
  ∃ (xs:List (DataW H × List MemPlace)) (m:Nat),fuel = m + 1 /\ x = (.agg (xs.map (·.1)),xs.flatMap (·.2)) /\ cs.length = P.cellsOf t /\ xs.length = n ∧
   ∀ i,i < n -> DataW.trod enc P W base spare held m e ((cs.drop (i * P.cellsOf e)).take (P.cellsOf e)) = xs[i]?:=by
 cases fuel with
 | zero=>simp [DataW.trod] at h
 | succ m=>
  unfold DataW.trod at h
  rw [ht] at h
  split at h <;> simp_all
  obtain ⟨hl,xs,hp,hd⟩:=h
  exact ⟨xs,hd.symm,by simpa using mapM_some_length hp,fun i hi=>mapM_some_get hp i i (by simp [hi])⟩
theorem pE {t:TypeId} {i:TI} (h:fQ P t i):P.cellsOf t = i.size:=by
 obtain ⟨inf,h1,h2,_⟩:=h.info
 simp [Program.cellsOf,h1,h2]
theorem EJ {t:TypeId} {i:TI} (h:fQ P t i):P.bytesOf t = i.bytes:=by
 obtain ⟨inf,h1,_,h2,_⟩:=h.info
 simp [Program.bytesOf,h1,h2]
end
end Go.Esc
