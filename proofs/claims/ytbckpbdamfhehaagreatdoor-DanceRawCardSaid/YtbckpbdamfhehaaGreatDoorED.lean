/- Own work. The other operations that give a value and leave the heap alone, and that the model's do the same. -/
import Derived.Test.YtbckpbdamfhehaaGreatDoorEC
set_option linter.unusedSimpArgs false
set_option linter.unusedVariables false
namespace Go.Esc
open Go Go.RowKit

def uni (n : Nat) (cs : List AVal) : Bool := cs.all fun c => sz c == n

theorem szs_uni {n : Nat} {cs : List AVal} (h : uni n cs = true) : szs cs = cs.length * n := by
  induction cs with
  | nil => simp [szs]
  | cons c cs ih =>
    simp only [uni, List.all_cons, Bool.and_eq_true, beq_iff_eq] at h
    rw [szs_cons, ih (by simpa [uni] using h.2), h.1, List.length_cons, Nat.succ_mul, Nat.add_comm]
theorem uni_take {n : Nat} {cs : List AVal} (h : uni n cs = true) (k : Nat) : uni n (cs.take k) = true := by
  simp only [uni, List.all_eq_true] at h ⊢
  exact fun x hx => h x (List.mem_of_mem_take hx)
theorem uni_drop {n : Nat} {cs : List AVal} (h : uni n cs = true) (k : Nat) : uni n (cs.drop k) = true := by
  simp only [uni, List.all_eq_true] at h ⊢
  exact fun x hx => h x (List.mem_of_mem_drop hx)

/-- The elements of the array in which a slice lies. -/
def arrAt (G : Heap) (n : Nat) (id : AId) (p : List Nat) (st off : Nat) : Option (List AVal) :=
  match vsub G (.ptr id p (off - st * n)) with
  | some (.agg cs) => if (decide (st * n ≤ off) && uni n cs) = true then some cs else none
  | _ => none

/-- A slice's elements. -/
def selems (G : Heap) (n : Nat) : AVal → Option (List AVal)
  | .nilSlice => some []
  | .slice id p st off len _ =>
    match arrAt G n id p st off with
    | some cs => if st + len ≤ cs.length then some ((cs.drop st).take len) else none
    | none => none
  | .str s => if n = 1 then some (s.map fun b => .int .u8 b.toNat) else none
  | _ => none

def bytesOf : List AVal → Option (List UInt8)
  | [] => some []
  | .int .u8 n :: vs => match bytesOf vs with
    | some l => some (UInt8.ofNat n.toNat :: l)
    | none => none
  | _ :: _ => none

def vnil : AVal → Option AVal
  | .ptr id p o => some (.ptr id p o)
  | .iface t v => some (.iface t v)
  | .func (.func f) a b => some (.func (.func f) a b)
  | _ => none

def vconv (T : Tbl) (G : Heap) (s d : TypeId) (x : AVal) : Option AVal :=
  match T s, T d with
  | some si, some di =>
    match di.desc, x with
    | .int k, .int _ n => some (.int k (k.wrap n))
    | .string, .str l => some (.str l)
    | .string, y =>
      match si.desc with
      | .slice e =>
        match T e with
        | some ie =>
          match ie.desc with
          | .int .u8 =>
            match y with
            | .nilSlice => some (.str [])
            | .slice id p st off len cap =>
              match selems G 1 (.slice id p st off len cap) with
              | some vs => match bytesOf vs with
                | some l => some (.str l)
                | none => none
              | none => none
            | _ => none
          | _ => none
        | none => none
      | _ => none
    | _, _ => none
  | _, _ => none

def sbound (v : Option AVal) (dflt y : Nat) : Option Nat :=
  match v with
  | none => some dflt
  | some (.int _ i) => if 0 ≤ i ∧ i ≤ y then some i.toNat else none
  | _ => none

def sbounds (len cap : Nat) (low high mx : Option AVal) : Option (Nat × Nat × Nat) :=
  match sbound mx cap cap with
  | some m =>
    match (if high.isNone && mx.isSome then none else sbound high len m) with
    | some h =>
      match sbound low 0 h with
      | some l => some (l, h, m)
      | none => none
    | none => none
  | none => none

def vslice (T : Tbl) (t : TypeId) (x : AVal) (low high mx : Option AVal) : Option AVal :=
  match T t with
  | some i =>
    match i.desc, x with
    | .string, .str s =>
      if mx.isSome then none else
      match sbounds s.length s.length low high none with
      | some (l, h, _) => some (.str ((s.drop l).take (h - l)))
      | none => none
    | .slice e, .slice id p st off len cap =>
      match T e with
      | some ie =>
        match sbounds len cap low high mx with
        | some (l, h, m) => some (.slice id p (if m = l then st else st + l) (if m = l then off else off + l * ie.size) (h - l) (m - l))
        | none => none
      | none => none
    | .slice e, .nilSlice =>
      match T e with
      | some _ =>
        match sbounds 0 0 low high mx with
        | some _ => some .nilSlice
        | none => none
      | none => none
    | .array n e, .ptr id p off =>
      match T e with
      | some ie =>
        match sbounds n n low high mx with
        | some (l, h, m) => some (.slice id p (if m = l then 0 else l) (if m = l then off else off + l * ie.size) (h - l) (m - l))
        | none => none
      | none => none
    | _, _ => none
  | none => none

def vfaddr (T : Tbl) (s : TypeId) (x : AVal) (f : Nat) : Option AVal :=
  match T s with
  | some i =>
    match i.desc, x with
    | .struct fs, .ptr id p off =>
      match fs[f]? with
      | some (ft, o) =>
        match T ft with
        | some fi => if fi.size = 0 then none else some (.ptr id (p ++ [f]) (off + o))
        | none => none
      | none => none
    | _, _ => none
  | none => none

def viaddr (T : Tbl) (t : TypeId) (x ix : AVal) : Option AVal :=
  match T t with
  | some i =>
    match i.desc, x, ix with
    | .array n e, .ptr id p off, .int _ j =>
      match T e with
      | some ie => if 0 ≤ j ∧ j < n then some (.ptr id (p ++ [j.toNat]) (off + j.toNat * ie.size)) else none
      | none => none
    | .slice e, .slice id p st off len _, .int _ j =>
      match T e with
      | some ie => if 0 ≤ j ∧ j < len then some (.ptr id (p ++ [st + j.toNat]) (off + j.toNat * ie.size)) else none
      | none => none
    | _, _, _ => none
  | none => none

def vindex (T : Tbl) (t : TypeId) (x ix : AVal) : Option AVal :=
  match T t with
  | some i =>
    match i.desc, x, ix with
    | .string, .str s, .int _ j =>
      if 0 ≤ j then
        match s[j.toNat]? with
        | some b => some (.int .u8 b.toNat)
        | none => none
      else none
    | .array n e, .agg cs, .int _ j =>
      match T e with
      | some ie =>
        if 0 ≤ j ∧ j < n then
          match cs[j.toNat]? with
          | some c => if (uni ie.size cs && vfits ie c) = true then some c else none
          | none => none
        else none
      | none => none
    | _, _, _ => none
  | none => none

def vfield (T : Tbl) (t : TypeId) (x : AVal) (f : Nat) : Option AVal :=
  match T t with
  | some i =>
    match i.desc, x with
    | .struct fs, .agg cs =>
      match fs[f]?, cs[f]? with
      | some (ft, o), some c =>
        match T ft with
        | some fi => if (szs (cs.take f) == o && vfits fi c) = true then some c else none
        | none => none
      | _, _ => none
    | _, _ => none
  | none => none

/-- Parts put into their places: a place's offset and size. -/
def fillA (pl : Nat → Option (Nat × Nat)) : List AVal → List (Nat × AVal) → Option (List AVal)
  | zs, [] => some zs
  | zs, (k, v) :: rest =>
    match pl k, zs[k]? with
    | some (o, s), some z => if (szs (zs.take k) == o && (sz v == s) && (sz z == s)) = true then fillA pl (zs.set k v) rest else none
    | _, _ => none

def places (T : Tbl) (fs : List (TypeId × Nat)) : Nat → Option (Nat × Nat) := fun k =>
  match fs[k]? with
  | some (ft, o) => match T ft with
    | some fi => some (o, fi.size)
    | none => none
  | none => none

def vbuild (T : Tbl) (t : TypeId) (parts : List (Nat × AVal)) : Option AVal :=
  match T t with
  | some i =>
    match i.desc, i.zero with
    | .struct fs, .agg zs =>
      if fs.all (fun g => (T g.1).isSome) = true then
        match fillA (places T fs) zs parts with
        | some cs => some (.agg cs)
        | none => none
      else none
    | .array _ e, .agg zs =>
      match T e with
      | some ie =>
        match fillA (fun k => some (k * ie.size, ie.size)) zs parts with
        | some cs => some (.agg cs)
        | none => none
      | none => none
    | _, _ => none
  | none => none

def vextract (x : AVal) (k : Nat) : Option AVal :=
  match x with
  | .tuple vs => vs[k]?
  | _ => none

def vlen (T : Tbl) (G : Heap) (t : TypeId) (x : AVal) : Option AVal :=
  match T t with
  | some i =>
    match i.desc, x with
    | .string, .str s => some (.int .i64 s.length)
    | .slice _, .slice _ _ _ _ n _ => some (.int .i64 n)
    | .slice _, .nilSlice => some (.int .i64 0)
    | .array n _, _ => some (.int .i64 n)
    | .map _ _, .nilMap => some (.int .i64 0)
    | .map _ _, .map id => match G id with
      | some (.map es) => some (.int .i64 es.length)
      | _ => none
    | _, _ => none
  | none => none

def vcap (T : Tbl) (t : TypeId) (x : AVal) : Option AVal :=
  match T t with
  | some i =>
    match i.desc, x with
    | .slice _, .slice _ _ _ _ _ n => some (.int .i64 n)
    | .slice _, .nilSlice => some (.int .i64 0)
    | _, _ => none
  | none => none

def vmin2 : AVal → AVal → Option AVal
  | .int k x, .int _ y => some (.int k (if y < x then y else x))
  | _, _ => none
def vmax2 : AVal → AVal → Option AVal
  | .int k x, .int _ y => some (.int k (if x < y then y else x))
  | _, _ => none

/-- Are two keys one? -/
def sameA : AVal → AVal → Option Bool
  | .int k a, .int k' b => if k = k' then some (decide (a = b)) else none
  | .str a, .str b => some (decide (a = b))
  | .bool a, .bool b => some (a == b)
  | _, _ => none

def findA (k : AVal) : List (AVal × AVal) → Nat → Option (Option (Nat × AVal))
  | [], _ => some none
  | e :: es, i =>
    match sameA k e.1 with
    | some true => some (some (i, e.2))
    | some false => findA k es (i + 1)
    | none => none

def keyDesc : ADesc → Bool
  | .int _ | .string | .bool => true
  | _ => false

def mapEs (G : Heap) : AVal → Option (List (AVal × AVal))
  | .nilMap => some []
  | .map id => match G id with
    | some (.map es) => some es
    | _ => none
  | _ => none

/-- Does a key's value fit the key type? -/
def keyFits : ADesc → AVal → Bool
  | .int _, .int _ _ => true
  | .string, .str _ => true
  | .bool, .bool _ => true
  | _, _ => false

def vlookup (T : Tbl) (G : Heap) (t : TypeId) (m k : AVal) (ok : Bool) : Option AVal :=
  match T t with
  | some i =>
    match i.desc with
    | .map kt et =>
      match T kt, T et with
      | some ki, some ei =>
        if keyFits ki.desc k = true then
          match mapEs G m with
          | some es =>
            match findA k es 0 with
            | some (some (_, v)) => some (bif ok then .tuple [v, .bool true] else v)
            | some none => some (bif ok then .tuple [ei.zero, .bool false] else ei.zero)
            | none => none
          | none => none
        else none
      | _, _ => none
    | _ => none
  | none => none

/-- Is there a result: the operands' values handed on. -/
def evs (env : Env) : List Operand → Option (List AVal)
  | [] => some []
  | x :: xs => match ev env x, evs env xs with
    | some v, some vs => some (v :: vs)
    | _, _ => none

def evo (env : Env) : Option Operand → Option (Option AVal)
  | none => some none
  | some x => match ev env x with
    | some v => some (some v)
    | none => none

def evp (env : Env) : List (Nat × Operand) → Option (List (Nat × AVal))
  | [] => some []
  | (k, x) :: xs => match ev env x, evp env xs with
    | some v, some vs => some ((k, v) :: vs)
    | _, _ => none

def isConst : Operand → Bool
  | .const _ => true
  | _ => false

/-- Is the type one of interfaces? -/
def notIface (T : Tbl) (t : TypeId) : Bool :=
  match T t with
  | some i => match i.desc with
    | .iface => false
    | _ => true
  | none => true

/-- The guard of '==': what it asks of the operands: two nil interfaces, neither of them the literal, are not compared. -/
def eqOk (T : Tbl) (op : BinOp) (t : TypeId) (x y : Operand) : Bool :=
  match op with
  | .eql | .neq => isConst x || isConst y || notIface T t
  | _ => true

def pickA (c : AVal) (a b : Option AVal) : Option AVal :=
  match c with
  | .bool t => bif t then a else b
  | _ => none

/-- The value that an operation gives which leaves the heap alone. -/
def dres (T : Tbl) (env : Env) (G : Heap) : Op → Option AVal
  | .move x => ev env x
  | .assign x => ev env x
  | .pick c a b => match ev env c with
    | some v => pickA v (ev env a) (ev env b)
    | none => none
  | .load t a => match ev env a with
    | some v => vload T G t v
    | none => none
  | .nilCheck x => match ev env x with
    | some v => vnil v
    | none => none
  | .binOp op t x y _ => match ev env x, ev env y with
    | some a, some b => bif eqOk T op t x y then vbin T op t a b else none
    | _, _ => none
  | .unOp op _ x => match ev env x with
    | some v => vun op v
    | none => none
  | .convert s d x => match ev env x with
    | some v => vconv T G s d v
    | none => none
  | .makeInterface t x => match ev env x, T t with
    | some v, some i => bif decide (i.desc = .iface) then none else some (.iface t v)
    | _, _ => none
  | .makeFunc fn first captured => match evs env first.toList, evs env captured.toList with
    | some a, some b => some (.func fn a b)
    | _, _ => none
  | .slice t x lo hi mx => match ev env x, evo env lo, evo env hi, evo env mx with
    | some v, some l, some h, some m => vslice T t v l h m
    | _, _, _, _ => none
  | .fieldAddr s x f => match ev env x with
    | some v => vfaddr T s v f
    | none => none
  | .field t x f => match ev env x with
    | some v => vfield T t v f
    | none => none
  | .indexAddr t x i => match ev env x, ev env i with
    | some v, some j => viaddr T t v j
    | _, _ => none
  | .index t x i => match ev env x, ev env i with
    | some v, some j => vindex T t v j
    | _, _ => none
  | .extract x k => match ev env x with
    | some v => vextract v k
    | none => none
  | .lookup t m k ok => match ev env m, ev env k with
    | some v, some j => vlookup T G t v j ok
    | _, _ => none
  | .build t parts => match evp env parts.toList with
    | some ps => vbuild T t ps
    | none => none
  | .call c => match c.callee with
    | .builtin .len => match c.args.toList, c.argTypes.toList with
      | [x], [t] => match ev env x with
        | some v => vlen T G t v
        | none => none
      | _, _ => none
    | .builtin .cap => match c.args.toList, c.argTypes.toList with
      | [x], [t] => match ev env x with
        | some v => vcap T t v
        | none => none
      | _, _ => none
    | .builtin .min => match c.args.toList with
      | [x, y] => match ev env x, ev env y with
        | some a, some b => vmin2 a b
        | _, _ => none
      | _ => none
    | .builtin .max => match c.args.toList with
      | [x, y] => match ev env x, ev env y with
        | some a, some b => vmax2 a b
        | _, _ => none
      | _ => none
    | _ => none
  | _ => none

end Go.Esc
