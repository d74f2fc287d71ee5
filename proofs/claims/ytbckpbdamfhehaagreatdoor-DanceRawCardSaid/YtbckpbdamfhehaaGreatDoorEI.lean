/- Own work. The operations that make memory, change it, or call. -/
import Derived.Test.YtbckpbdamfhehaaGreatDoorEH
import Derived.Lib.ConvBytes
import Derived.Laws.MakeOwn
set_option linter.unusedSimpArgs false
set_option linter.unusedVariables false
namespace Go.Esc
open Go Go.RowKit

/-- A call of a function by its number: with or without a Go body. -/
def CallsX (P : Program) (f : FuncId) (args : Array Value) (w : World) (R : Value → World → Prop) : Prop :=
  match (callFunc f args).run P w with
  | .ok (.value u) w' => R u w'
  | .ok (.enter f' args') w' => Calls P f' args' w' fun e w'' => ∃ u, e = .returned u ∧ R u w''
  | _ => False

theorem CallsX.mono {P : Program} {f : FuncId} {args : Array Value} {w : World} {R R' : Value → World → Prop} (h : CallsX P f args w R) (hr : ∀ u w', R u w' → R' u w') : CallsX P f args w R' := by
  unfold CallsX at *
  split at h
  · exact hr _ _ h
  · exact h.mono fun e w'' ⟨u, he, hu⟩ => ⟨u, he, hr _ _ hu⟩
  · exact h.elim

/-- THE CONTRACT OF A CALL, over trees and the heap: whatever the base. -/
def ACalls (P : Program) (f : FuncId) (args : List AVal) (G : Heap) (Q : AVal → Heap → Prop) : Prop :=
  ∀ B w, Rel B G w → CallsX P f (cvs args).toArray w fun u w' => ∃ v G', u = cv v ∧ Rel B G' w' ∧ Q v G'

theorem ACalls.mono {P : Program} {f : FuncId} {args : List AVal} {G : Heap} {Q Q' : AVal → Heap → Prop} (h : ACalls P f args G Q) (hq : ∀ v G', Q v G' → Q' v G') : ACalls P f args G Q' :=
  fun B w hr => (h B w hr).mono fun u w' ⟨v, G', e, r, q⟩ => ⟨v, G', e, r, hq _ _ q⟩

/-- Is there a world with this heap? -/
def Live (G : Heap) : Prop := ∃ B w, Rel B G w

theorem ACalls.mono_live {P : Program} {f : FuncId} {args : List AVal} {G : Heap} {Q Q' : AVal → Heap → Prop} (h : ACalls P f args G Q) (hq : ∀ v G', Live G' → Q v G' → Q' v G') : ACalls P f args G Q' :=
  fun B w hr => (h B w hr).mono fun u w' ⟨v, G', e, r, q⟩ => ⟨v, G', e, r, hq _ _ ⟨B, w', r⟩ q⟩

/-- THE FRAME RULE: a call told of a part of the heap leaves the rest alone. -/
theorem ACalls.frame {P : Program} {f : FuncId} {args : List AVal} {G G1 : Heap} {Q : AVal → Heap → Prop} (h : ACalls P f args G1 Q) (hle : G1.le G) :
    ACalls P f args G fun v G' => ∃ G1', Q v G1' ∧ G' = G.merge G1 G1' := by
  intro B w hr
  exact (h _ w (hr.weaken hle).ownBase).mono fun u w' ⟨v, G1', e, r, q⟩ => ⟨v, G.merge G1 G1', e, hr.merge hle r, G1', q, rfl⟩

structure Cx where
  P : Program
  T : Tbl
  meth : TypeId → String → Option FuncId

structure CxOk (cx : Cx) : Prop where
  tbl : TblOk cx.P cx.T
  meth : ∀ t n f, cx.meth t n = some f → ∀ (v : Value) w, (method (cx.P.types.size + Made.depth) t v n).run cx.P w = .ok (f, v) w

def Op.isE (T : Tbl) : Op → Bool
  | .alloc _ | .box _ _ | .buildSlice _ _ _ | .makeSlice _ _ _ | .makeMap _ _ | .store _ _ _ | .mapUpdate _ _ _ _ | .insert _ _ _ _ => true
  | .convert _ d _ => match T d with
    | some i => match i.desc with
      | .slice _ => true
      | _ => false
    | none => false
  | .call c => match c.callee with
    | .builtin .append => true
    | .builtin .copy => true
    | .builtin _ => false
    | _ => true
  | _ => false

/-- An own row's array with other elements. -/
def putArr (G : Heap) (id : AId) (p : List Nat) (n st off : Nat) (cs' : List AVal) : Option Heap :=
  match G id with
  | some (.own tr) => match sub p tr (off - st * n) with
    | some _ => some (G.upd id (.own (putAt p tr (.agg cs'))))
    | none => none
  | _ => none

/-- A new row under a name that is free. -/
def aNew (G : Heap) (o : AObj) (K : AId → Heap → Prop) : Prop := ∀ id, Fresh G id → K id (G.upd id o)

def wg (o : Option Heap) (K : Heap → Prop) : Prop :=
  match o with
  | some G => K G
  | none => False

/-- A new row for a slice that has grown. -/
def grow (i : TI) (G : Heap) (olds vs : List AVal) (K : AVal → Heap → Prop) : Prop :=
  (olds.length + vs.length) * i.bytes ≤ 220000000000000 ∧ (i.bytes ≠ 0 ∧ i.bytes ≤ 1000000) ∧ ∀ id cap, Fresh G id → olds.length + vs.length ≤ cap → cap ≤ maxLen →
    K (.slice id [] 0 0 (olds.length + vs.length) cap) (G.upd id (.own (.agg (olds ++ vs ++ List.replicate (cap - (olds.length + vs.length)) i.zero))))

/-- Elements written into an array behind some others: there is room. -/
def lay (i : TI) (G : Heap) (id : AId) (p : List Nat) (st off at_ : Nat) (vs : List AVal) (K : Heap → Prop) : Prop :=
  match vs with
  | [] => K G
  | _ :: _ =>
    match arrAt G i.size id p st off with
    | some cs => st + at_ + vs.length ≤ cs.length ∧ okvs vs = true ∧ uni i.size vs = true ∧
      match putArr G id p i.size st off (cs.take (st + at_) ++ vs ++ cs.drop (st + at_ + vs.length)) with
      | some G' => K G'
      | none => False
    | none => False

def aAppend0 (T : Tbl) (G : Heap) (ts tx : TypeId) (s x : AVal) (K : AVal → Heap → Prop) : Prop :=
  match T ts, T tx with
  | some si, some xi =>
    match si.desc with
    | .slice e =>
      match T e with
      | some i =>
        (xi.desc = .string ∨ ∃ e', xi.desc = .slice e') ∧
        match selems G i.size x with
        | some vs =>
          match s with
          | .nilSlice => match vs with
            | [] => K .nilSlice G
            | v :: vs => grow i G [] (v :: vs) K
          | .slice id p st off len cap =>
            (len + vs.length ≤ cap → lay i G id p st off len vs fun G' => K (.slice id p st off (len + vs.length) cap) G') ∧
            (cap < len + vs.length → match selems G i.size (.slice id p st off len cap) with
              | some olds => grow i G olds vs K
              | none => False)
          | _ => False
        | none => False
      | none => False
    | _ => False
  | _, _ => False

/-- The same, shut for the kernel. -/
structure aAppend (T : Tbl) (G : Heap) (ts tx : TypeId) (s x : AVal) (K : AVal → Heap → Prop) : Prop where
  out : aAppend0 T G ts tx s x K

def aCopy (T : Tbl) (G : Heap) (td : TypeId) (d x : AVal) (K : AVal → Heap → Prop) : Prop :=
  match T td with
  | some di =>
    match di.desc with
    | .slice e =>
      match T e with
      | some i =>
        match selems G i.size x with
        | some vs =>
          match d with
          | .nilSlice => K (.int .i64 0) G
          | .slice id p st off len _ => lay i G id p st off 0 (vs.take len) fun G' => K (.int .i64 (min vs.length len : Nat)) G'
          | _ => False
        | none => False
      | none => False
    | _ => False
  | none => False

def aMapUpdate (T : Tbl) (G : Heap) (t : TypeId) (m k v : AVal) (K : Heap → Prop) : Prop :=
  match T t with
  | some i =>
    match i.desc with
    | .map kt _ =>
      match T kt with
      | some ki =>
        keyFits ki.desc k = true ∧
        match m with
        | .map id => match G id with
          | some (.map es) => match findA k es 0 with
            | some (some (j, _)) => K (G.upd id (.map (es.set j (k, v))))
            | some none => K (G.upd id (.map (es ++ [(k, v)])))
            | none => False
          | _ => False
        | _ => False
      | none => False
    | _ => False
  | none => False

/-- make: a new row of zeros. -/
def aMake (i : TI) (G : Heap) (n m : Int) (K : AVal → Heap → Prop) : Prop :=
  0 ≤ n ∧ n ≤ m ∧ (i.bytes : Int) * m ≤ 281474976710656 ∧ m ≤ 9223372036854775807 ∧
    aNew G (.own (.agg (List.replicate m.toNat i.zero))) fun id G' => K (.slice id [] 0 0 n.toNat m.toNat) G'

/-- A text's bytes in a new row. -/
def aBytes (G : Heap) (l : List UInt8) (K : AVal → Heap → Prop) : Prop :=
  l.length ≤ maxLen ∧ ∀ cap, l.length ≤ cap → cap ≤ maxLen →
    aNew G (.own (.agg (l.map (fun b => .int .u8 b.toNat) ++ List.replicate (cap - l.length) (.int .u8 0)))) fun id G' => K (.slice id [] 0 0 l.length cap) G'

/-- A load that was made: the operation's number, the type, the address, the value. -/
structure Ld where
  idx : Nat
  t : TypeId
  a : AVal
  v : AVal
  s : Option TypeId

/-- The same read again (a load; or bytes as a text). -/
def Ld.val (T : Tbl) (G : Heap) (e : Ld) : Option AVal :=
  match e.s with
  | none => vload T G e.t e.a
  | some s => vconv T G s e.t e.a

def memN (t : Nat) : List Nat → Bool
  | [] => false
  | x :: l => bif Nat.beq t x then true else memN t l

/-- The loads that a call must leave as they were, because Go leaves open which comes first. -/
def recheck (T : Tbl) (G' : Heap) (chk : List Nat) : List Ld → Prop
  | [] => True
  | e :: ld => bif memN e.idx chk then (e.val T G' = some e.v ∧ recheck T G' chk ld) else recheck T G' chk ld

/-- A call of a function value. -/
def aCallV (P : Program) (f : AVal) (args : List AVal) (G : Heap) (K : AVal → Heap → Prop) : Prop :=
  match f with
  | .func (.func k) first captured => ACalls P k (first ++ args ++ captured) G K
  | _ => False

/-- A method called on an interface value. -/
def aInvoke (cx : Cx) (r : AVal) (m : String) (args : List AVal) (G : Heap) (K : AVal → Heap → Prop) : Prop :=
  match r with
  | .iface t v => match cx.meth t m with
    | some k => ACalls cx.P k (v :: args) G K
    | none => False
  | _ => False

def aBuildSlice (T : Tbl) (t : TypeId) (len : Nat) (ps : List (Nat × AVal)) (G : Heap) (K : AVal → Heap → Prop) : Prop :=
  match T t with
  | some si => match si.desc with
    | .slice e => match T e with
      | some i => match fillA (fun k => some (k * i.size, i.size)) (List.replicate len i.zero) ps with
        | some cs => len * i.size ≤ 16777216 ∧ aNew G (.own (.agg cs)) fun id G' => K (.slice id [] 0 0 len len) G'
        | none => False
      | none => False
    | _ => False
  | none => False

def aMakeSlice (T : Tbl) (t : TypeId) (l c : AVal) (G : Heap) (K : AVal → Heap → Prop) : Prop :=
  match T t, l, c with
  | some si, .int _ n, .int _ m => match si.desc with
    | .slice e => match T e with
      | some i => aMake i G n m K
      | none => False
    | _ => False
  | _, _, _ => False

def aConvBytes (T : Tbl) (s d : TypeId) (x : AVal) (G : Heap) (K : AVal → Heap → Prop) : Prop :=
  match T s, T d, x with
  | some _, some di, .str l => match di.desc with
    | .slice e => match T e with
      | some i => i.desc = .int .u8 ∧ aBytes G l K
      | none => False
    | _ => False
  | _, _, _ => False

/-- What is asked behind an operation: the rest, and before it that those loads stand. -/
def withChk (T : Tbl) (chk : List Nat) (ld : List Ld) (K : Option AVal → Heap → Prop) : Option AVal → Heap → Prop :=
  match chk with
  | [] => K
  | _ :: _ => fun v G' => recheck T G' chk ld ∧ K v G'

def awpE (cx : Cx) (env : Env) (G : Heap) (K : Option AVal → Heap → Prop) : Op → Prop
  | .alloc e => match cx.T e with
    | some i => aNew G (.own i.zero) fun id G' => K (some (.ptr id [] 0)) G'
    | none => False
  | .box _ x => match ev env x with
    | some v => aNew G (.own v) fun id G' => K (some (.ptr id [] 0)) G'
    | none => False
  | .buildSlice t len parts => match evp env parts.toList with
    | some ps => aBuildSlice cx.T t len ps G fun v G' => K (some v) G'
    | none => False
  | .makeSlice t l c => match ev env l, ev env c with
    | some l', some c' => aMakeSlice cx.T t l' c' G fun v G' => K (some v) G'
    | _, _ => False
  | .makeMap t none => aNew G (.map []) fun id G' => K (some (.map id)) G'
  | .store t a v => match ev env a, ev env v with
    | some a', some v' => wg (vstore cx.T G t a' v') fun G' => K none G'
    | _, _ => False
  | .mapUpdate t m k v => match ev env m, ev env k, ev env v with
    | some m', some k', some v' => aMapUpdate cx.T G t m' k' v' fun G' => K none G'
    | _, _, _ => False
  | .insert t m k v => match ev env m, ev env k, ev env v with
    | some m', some k', some v' => aMapUpdate cx.T G t m' k' v' fun G' => K none G'
    | _, _, _ => False
  | .convert s d x => match ev env x with
    | some x' => aConvBytes cx.T s d x' G fun v G' => K (some v) G'
    | none => False
  | .call c => match c.callee with
    | .builtin .append => match c.args.toList, c.argTypes.toList with
      | [s, x], [ts, tx] => match ev env s, ev env x with
        | some s', some x' => aAppend cx.T G ts tx s' x' fun v G' => K (some v) G'
        | _, _ => False
      | _, _ => False
    | .builtin .copy => match c.args.toList, c.argTypes.toList with
      | [d, x], [td, _] => match ev env d, ev env x with
        | some d', some x' => aCopy cx.T G td d' x' fun v G' => K (some v) G'
        | _, _ => False
      | _, _ => False
    | .value f => match ev env f, evs env c.args.toList with
      | some fv, some args => aCallV cx.P fv args G fun v G' => K (some v) G'
      | _, _ => False
    | .invoke r m => match ev env r, evs env c.args.toList with
      | some rv, some args => aInvoke cx rv m args G fun v G' => K (some v) G'
      | _, _ => False
    | _ => False
  | _ => False

end Go.Esc
