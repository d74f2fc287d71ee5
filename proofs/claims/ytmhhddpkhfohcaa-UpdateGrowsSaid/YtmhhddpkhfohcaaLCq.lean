import Derived.Test.YtmhhddpkhfohcaaLCy
import Derived.Test.YtmhhddpkhfohcaaLHh
/- Own work. Chapter 14: ledgers; which are sound. -/
set_option linter.unusedSimpArgs false
set_option linter.unusedVariables false
namespace Go.Esc
open Go Go.RowKit

theorem wv_of {o : Option AVal} {v : AVal} {K : AVal → Prop} (h : o = some v) (k : K v) : wv o K := by rw [h]; exact k
theorem wg_of {o : Option Heap} {v : Heap} {K : Heap → Prop} (h : o = some v) (k : K v) : wg o K := by rw [h]; exact k

section
variable {T : Tbl} {t : TypeId} {ti : TI} {G : Heap} {i : AId} {c z : AVal}
theorem whole_load (ht : T t = some ti) (hg : G i = some (.own c)) (hf : vfits ti c = true) : vload T G t (.ptr i [] 0) = some c := by
  simp [vload, vsub, hg, treeOf, sub, ht, hf]
theorem whole_store (ht : T t = some ti) (hg : G i = some (.own z)) (hf : vfits ti c = true) (hs : sz z = sz c) (hok : okv c = true) : vstore T G t (.ptr i [] 0) c = some (G.upd i (.own c)) := by
  simp [vstore, hg, sub, ht, hf, hs, hok, putAt]

/-- A new variable with a value. -/
theorem newVal {F0 : List AId} {G0 : Heap} {ps : List LP} {K : AId → Heap → Prop} (hs : Sp F0 G0 ps G) (ht : T t = some ti) (hf : vfits ti c = true) (hz : sz z = sz c) (hok : okv c = true) (hK : ∀ i G', Sp F0 G0 (RowL i c :: ps) G' → K i G') :
    aNew G (.own z) fun i G2 => wg (vstore T G2 t (.ptr i [] 0) c) fun G3 => K i G3 := by
  intro i hfr
  have s := hs.row hfr z
  rw [whole_store ht (RowL.own (i := 0) s rfl) hf hz hok, wg_some]
  refine hK _ _ ?_
  refine s.call (i := 0) rfl (RowL i c) fun F h k => ?_
  obtain ⟨h, rfl⟩ := h
  exact k _ _ ⟨Heap.upd_self _ _ _, rfl⟩ ⟨roLe_upd h (by simp), fun j x hj hn => by rw [Heap.upd_ne _ _ (fun e => hn (by simp [e]))]; exact hj, fun j hj => .inl hj⟩
end

theorem IsSl.ch' {n : Nat} {G G' : Heap} {E : List AId} {v : AVal} {vs : List AVal} (h : IsSl n G v vs) (hc : Ch [] G E G') : IsSl n G' v vs := h.le fun j o hj => hc.others j o hj (by simp)

/-- A map's row. -/
def MapL (id : AId) (es : List (AVal × AVal)) : LP where
  p := fun G F => G id = some (.map es) ∧ F = [id]
  rows := by rintro G F ⟨h, rfl⟩ j hj; simp at hj; subst hj; simp [h]
  loc := by rintro G G' F ⟨h, rfl⟩ hs; exact ⟨by rw [hs id (by simp)]; exact h, rfl⟩
theorem MapL.own {F0 : List AId} {G0 G : Heap} {ps : List LP} {i : Nat} {id : AId} {es : List (AVal × AVal)} (h : Sp F0 G0 ps G) (hi : ps[i]? = some (MapL id es)) : G id = some (.map es) := by
  obtain ⟨F, h, _⟩ := h.get hi
  exact h
theorem Sp.setMap' {F0 : List AId} {G0 G : Heap} {ps : List LP} {j : Nat} {i : AId} {es : List (AVal × AVal)} (h : Sp F0 G0 ps G) (hj : ps[j]? = some (MapL i es)) (es' : List (AVal × AVal)) : Sp F0 G0 (ps.set j (MapL i es')) (G.upd i (.map es')) := by
  refine h.call hj (MapL i es') fun F h k => ?_
  obtain ⟨h, rfl⟩ := h
  exact k _ _ ⟨Heap.upd_self _ _ _, rfl⟩ ⟨roLe_upd h (by simp), fun j x hj hn => by rw [Heap.upd_ne _ _ (fun e => hn (by simp [e]))]; exact hj, fun j hj => .inl hj⟩

/-- How many of each kind. -/
def cmap (ct cf : Nat) : List (AVal × AVal) := (if ct = 0 then [] else [(.bool true, .int .i64 (ct : Int))]) ++ (if cf = 0 then [] else [(.bool false, .int .i64 (cf : Int))])
/-- The last of each kind. -/
def lmap (lt lf : Int) : List (AVal × AVal) := [(.bool true, .int .i64 lt), (.bool false, .int .i64 lf)]

section
variable {T : Tbl} {t kt et : TypeId} {i ki ei : TI} (ht : T t = some i) (hd : i.desc = .map kt et) (hk : T kt = some ki) (hkd : ki.desc = .bool) (he : T et = some ei) (hez : ei.zero = .int .i64 0) {G : Heap} {id : AId}

include ht hd hk hkd he hez in
theorem cmap_look {ct cf : Nat} (hg : G id = some (.map (cmap ct cf))) (b : Bool) : vlookup T G t (.map id) (.bool b) false = some (.int .i64 ((bif b then ct else cf : Nat) : Int)) := by
  have hf : keyFits ki.desc (.bool b) = true := by rw [hkd]; rfl
  by_cases h1 : ct = 0 <;> by_cases h2 : cf = 0 <;> cases b <;> simp [vlookup, ht, hd, hk, he, hf, mapEs, hg, cmap, h1, h2, findA, sameA, hez]
include ht hd hk hkd in
theorem cmap_true {ct : Nat} {K : Heap → Prop} (hg : G id = some (.map (cmap ct 0))) (hK : K (G.upd id (.map (cmap (ct + 1) 0)))) : aMapUpdate T G t (.map id) (.bool true) (.int .i64 ((ct + 1 : Nat) : Int)) K := by
  have hf : keyFits ki.desc (.bool true) = true := by rw [hkd]; rfl
  by_cases h1 : ct = 0
  · subst h1
    simp only [aMapUpdate, ht, hd, hk, hg]
    exact ⟨hf, hK⟩
  · have e1 : cmap ct 0 = [(.bool true, .int .i64 (ct : Int))] := by simp [cmap, h1]
    have e2 : cmap (ct + 1) 0 = [(.bool true, .int .i64 ((ct + 1 : Nat) : Int))] := by simp [cmap]
    rw [e1] at hg
    rw [e2] at hK
    simp only [aMapUpdate, ht, hd, hk, hg]
    exact ⟨hf, hK⟩
include ht hd hk hkd in
theorem cmap_false {ct cf : Nat} {K : Heap → Prop} (hg : G id = some (.map (cmap ct cf))) (hK : K (G.upd id (.map (cmap ct (cf + 1))))) : aMapUpdate T G t (.map id) (.bool false) (.int .i64 ((cf + 1 : Nat) : Int)) K := by
  have hf : keyFits ki.desc (.bool false) = true := by rw [hkd]; rfl
  by_cases h1 : ct = 0 <;> by_cases h2 : cf = 0
  · subst h1 h2
    simp only [aMapUpdate, ht, hd, hk, hg]
    exact ⟨hf, hK⟩
  · have e1 : cmap ct cf = [(.bool false, .int .i64 (cf : Int))] := by simp [cmap, h1, h2]
    have e2 : cmap ct (cf + 1) = [(.bool false, .int .i64 ((cf + 1 : Nat) : Int))] := by simp [cmap, h1]
    rw [e1] at hg
    rw [e2] at hK
    simp only [aMapUpdate, ht, hd, hk, hg]
    exact ⟨hf, hK⟩
  · have e1 : cmap ct cf = [(.bool true, .int .i64 (ct : Int))] := by simp [cmap, h1, h2]
    have e2 : cmap ct (cf + 1) = [(.bool true, .int .i64 (ct : Int)), (.bool false, .int .i64 ((cf + 1 : Nat) : Int))] := by simp [cmap, h1]
    rw [e1] at hg
    rw [e2] at hK
    subst h2
    simp only [aMapUpdate, ht, hd, hk, hg]
    exact ⟨hf, hK⟩
  · have e1 : cmap ct cf = [(.bool true, .int .i64 (ct : Int)), (.bool false, .int .i64 (cf : Int))] := by simp [cmap, h1, h2]
    have e2 : cmap ct (cf + 1) = [(.bool true, .int .i64 (ct : Int)), (.bool false, .int .i64 ((cf + 1 : Nat) : Int))] := by simp [cmap, h1]
    rw [e1] at hg
    rw [e2] at hK
    simp only [aMapUpdate, ht, hd, hk, hg]
    exact ⟨hf, hK⟩
include ht hd hk in
theorem map_upd {es : List (AVal × AVal)} {k v : AVal} {r : Option (Nat × AVal)} {K : Heap → Prop} (hg : G id = some (.map es)) (hf : keyFits ki.desc k = true) (hr : findA k es 0 = some r)
    (hK : K (G.upd id (.map (match r with | some (j, _) => es.set j (k, v) | none => es ++ [(k, v)])))) : aMapUpdate T G t (.map id) k v K := by
  simp only [aMapUpdate, ht, hd, hk, hg, hr]
  refine ⟨hf, ?_⟩
  cases r with
  | none => exact hK
  | some x => exact hK
include ht hd hk hkd he in
theorem lmap_look {lt lf : Int} (hg : G id = some (.map (lmap lt lf))) (b : Bool) : vlookup T G t (.map id) (.bool b) false = some (.int .i64 (bif b then lt else lf)) := by
  have hf : keyFits ki.desc (.bool b) = true := by rw [hkd]; rfl
  cases b <;> simp [vlookup, ht, hd, hk, he, hf, mapEs, hg, lmap, findA, sameA]
include ht hd hk hkd in
theorem lmap_upd {lt lf n : Int} {b : Bool} {K : Heap → Prop} (hg : G id = some (.map (lmap lt lf))) (hK : K (G.upd id (.map (lmap (bif b then n else lt) (bif b then lf else n))))) : aMapUpdate T G t (.map id) (.bool b) (.int .i64 n) K := by
  have hf : keyFits ki.desc (.bool b) = true := by rw [hkd]; rfl
  cases b
  · simp only [aMapUpdate, ht, hd, hk, hg]
    exact ⟨hf, hK⟩
  · simp only [aMapUpdate, ht, hd, hk, hg]
    exact ⟨hf, hK⟩
end

end Go.Esc
namespace Go.Esc.M
open Go Go.Esc

structure PenM where
  ours : Bool
  id : Int
  amount : Int
  hash : List UInt8
  deriving DecidableEq

def PenM.av (p : PenM) : AVal := .agg [.bool p.ours, .int .i64 p.id, .int .i64 p.amount, .agg (p.hash.map u8v)]
structure PenM.ok (p : PenM) : Prop where
  id : I64 p.id
  amount : I64 p.amount
  hash : p.hash.length = 32

theorem PenM.sz {p : PenM} (h : p.ok) : sz p.av = 35 := by
  have h1 : szs (p.hash.map u8v) = 32 := by rw [szs_uni (n := 1) (uni_u8 p.hash)]; simp [h.hash]
  simp [PenM.av, Esc.sz, szs, h1]
theorem PenM.okv (p : PenM) : okv p.av = true := by simp [PenM.av, Esc.okv, okvs, okvs_u8]
theorem PenM.fld {G : Heap} {i : AId} {p : PenM} (h : p.ok) (hg : G i = some (.own p.av)) :
    vload T G t_bool (.ptr i [0] 0) = some (.bool p.ours) ∧ vload T G t_int64 (.ptr i [1] 1) = some (.int .i64 p.id) ∧ vload T G t_int64 (.ptr i [2] 2) = some (.int .i64 p.amount) ∧ vload T G t_api_Hash (.ptr i [3] 3) = some (.agg (p.hash.map u8v)) := by
  have h1 : szs (p.hash.map u8v) = 32 := by rw [szs_uni (n := 1) (uni_u8 p.hash)]; simp [h.hash]
  refine ⟨vload_fld (c := .bool p.ours) hg rfl rfl rfl T_bool rfl, vload_fld (c := .int .i64 p.id) hg rfl rfl rfl T_int64 rfl, vload_fld (c := .int .i64 p.amount) hg rfl rfl rfl T_int64 rfl, vload_fld (c := .agg (p.hash.map u8v)) hg rfl rfl rfl T_api_Hash ?_⟩
  simp [vfits, Esc.sz, h1, ti_api_Hash, AVal.isAgg, ADesc.isAgg]

/-- A ledger's value: its list stands in memory. -/
def ledV (o p : Int) (v : AVal) : AVal := .agg [.int .i64 o, .int .i64 p, v]

def maxAmount : Int := 1152921504606846976

def scanP : Int → Int → Nat → Nat → List PenM → Option (Nat × Nat)
  | _, _, ct, cf, [] => some (ct, cf)
  | lt, lf, ct, cf, p :: l =>
    if p.amount < 1 ∨ maxAmount < p.amount ∨ p.id ≤ (bif p.ours then lt else lf) ∨ (p.ours = true ∧ 0 < cf) then none
    else bif p.ours then scanP p.id lf (ct + 1) cf l else scanP lt p.id ct (cf + 1) l
def few (r : Option (Nat × Nat)) : Bool :=
  match r with
  | none => false
  | some (a, b) => decide (a ≤ 483) && decide (b ≤ 483)
def soundP (o q : Int) (l : List PenM) : Bool := decide (0 ≤ o) && decide (o ≤ maxAmount) && decide (0 ≤ q) && decide (q ≤ maxAmount) && few (scanP (-1) (-1) 0 0 l)

section
variable {G : Heap} {Q : AVal → Heap → Prop}

theorem sl_leaf {n : Nat} {v : AVal} {vs : List AVal} (h : IsSl n G v vs) : sz v = 1 ∧ v.isAgg = false ∧ okv v = true := by
  rcases h with ⟨_, _, _, _, _, _, rfl, _⟩ | ⟨rfl, _⟩ <;> exact ⟨rfl, rfl, rfl⟩

end
end Go.Esc.M

/- Own work. Chapter 14: a commitment's bytes, in the program. -/
set_option linter.unusedSimpArgs false
set_option linter.unusedVariables false
namespace Go.Esc.M
open Go Go.Esc

def PenM.bytes (p : PenM) : List UInt8 := be 1 (bif p.ours then 1 else 0) ++ (be 8 (bits64 p.id) ++ (be 8 (bits64 p.amount) ++ p.hash))
theorem PenM.length_bytes {p : PenM} (h : p.ok) : p.bytes.length = 49 := by simp [PenM.bytes, length_be, h.hash]

def textB (owner index : Int) (point : List UInt8) (o q : Int) (l : List PenM) : List UInt8 :=
  be 1 owner.toNat ++ (be 8 (bits64 index) ++ (point ++ (be 8 (bits64 o) ++ (be 8 (bits64 q) ++ (be 2 l.length ++ l.flatMap PenM.bytes)))))
def maxIndex : Int := 281474976710655
def argBad (owner index : Int) : Prop := owner < 0 ∨ 1 < owner ∨ index < 0 ∨ maxIndex < index
instance (owner index : Int) : Decidable (argBad owner index) := inferInstanceAs (Decidable (_ ∨ _ ∨ _ ∨ _))
def textR (owner index : Int) (point : List UInt8) (o q : Int) (l : List PenM) : List UInt8 × Int :=
  if argBad owner index then ([], 1) else bif soundP o q l then (textB owner index point o q l, 0) else ([], 4)

theorem scanP_count : ∀ (l : List PenM) {lt lf : Int} {ct cf a b : Nat}, scanP lt lf ct cf l = some (a, b) → a + b = ct + cf + l.length
  | [], lt, lf, ct, cf, a, b, h => by
    simp only [scanP, Option.some.injEq, Prod.mk.injEq] at h
    simp; omega
  | p :: l, lt, lf, ct, cf, a, b, h => by
    rw [scanP] at h
    split at h
    · cases h
    · cases hp : p.ours with
      | true =>
        rw [hp] at h
        have := scanP_count l h
        simp; omega
      | false =>
        rw [hp] at h
        have := scanP_count l h
        simp; omega

theorem soundP_length {o q : Int} {l : List PenM} (h : soundP o q l = true) : l.length ≤ 966 := by
  unfold soundP at h
  simp only [Bool.and_eq_true] at h
  have h := h.2
  unfold few at h
  split at h
  · cases h
  · rename_i a b he
    have := scanP_count l he
    simp only [Bool.and_eq_true, decide_eq_true_eq] at h
    omega

section
variable {F0 : List AId} {G0 G : Heap} {ps : List LP} {Q : AVal → Heap → Prop}

/-- A value laid by a writer that is not broken. -/
theorem wr {id : AId} {bs xs : List UInt8} {n : FuncId} {args : List AVal} {i : Nat} {K : AVal → Heap → Prop} (hs : Sp F0 G0 ps G) (hi : ps[i]? = some (WrL id bs 0))
    (huse : ∀ {G : Heap} {F : List AId} {Q : AVal → Heap → Prop}, Wr id (bs, 0) G F → (∀ F' G', Wr id (laid (bs, 0) xs) G' F' → Ch F G F' G' → Q (.tuple []) G') → ACalls P n args G Q)
    (hK : ∀ G', Sp F0 G0 (ps.set i (WrL id (bs ++ xs) 0)) G' → K (.tuple []) G') : ACalls P n args G K := by
  refine hs.call hi (WrL id (bs ++ xs) 0) fun F h k => ?_
  exact huse h fun F' G' w c => hK _ (k F' G' w c)

theorem u8_conv (n : Int) (h0 : 0 ≤ n) (h1 : n ≤ 255) : vconv T G t_int t_uint8 (.int .i64 n) = some (.int .u8 (n.toNat : Nat)) := by
  rw [vconv_int T_int T_uint8 rfl, u8_in h0 h1]
  congr 2
  omega

end
end Go.Esc.M

/- Own work. Chapter 14: the document's texts. -/
set_option linter.unusedSimpArgs false
set_option linter.unusedVariables false
namespace Go.Esc
open Go Go.RowKit

section
variable {T : Tbl} {ts e tx : TypeId} {si ie xi : TI} (ht : T ts = some si) (hd : si.desc = .slice e) (he : T e = some ie) (hz : sz ie.zero = ie.size) (hb : ie.bytes ≠ 0)
variable {F0 : List AId} {G0 G : Heap} {ps : List LP} {s : AVal} {vs : List AVal} {i : Nat} {K : AVal → Heap → Prop}

include ht hd he hz hb in
/-- A list in one's own row gets a value more. -/
theorem growV {c : AVal} (hs : Sp F0 G0 ps G) (hi : ps[i]? = some (OwnL ie.size s vs)) (hc : sz c = ie.size) (hok : okv c = true) (hie : ie.size ≤ 16777216) (hl : (vs.length + 1) * ie.bytes ≤ 140737488355328)
    (hK : ∀ s' G', Sp F0 G0 (ps.set i (OwnL ie.size s' (vs ++ [c]))) G' → K s' G') : aBuildSlice T ts 1 [(0, c)] G fun v G' => aAppend T G' ts ts s v K := by
  obtain ⟨F, ho, _⟩ := hs.get hi
  refine append1 ht hd he hz hb ho hc hok hie hl fun s' G2 ho2 hk => hK s' G2 ?_
  refine hs.call hi (OwnL ie.size s' (vs ++ [c])) fun F h k => ?_
  obtain ⟨_, rfl⟩ := h
  exact k _ _ ⟨ho2, rfl⟩ hk.ch

include ht hd he hz hb in
/-- A list in one's own row gets values more. -/
theorem growL {x : AVal} {xs : List AVal} (htx : T tx = some xi) (hdx : xi.desc = .string ∨ ∃ e', xi.desc = .slice e') (hs : Sp F0 G0 ps G) (hi : ps[i]? = some (OwnL ie.size s vs)) (hx : selems G ie.size x = some xs) (hu : uni ie.size xs = true) (hok : okvs xs = true)
    (hl : (vs.length + xs.length) * ie.bytes ≤ 140737488355328) (hK : ∀ s' G', Sp F0 G0 (ps.set i (OwnL ie.size s' (vs ++ xs))) G' → K s' G') : aAppend T G ts tx s x K := by
  obtain ⟨F, ho, _⟩ := hs.get hi
  refine own_append ht hd he hz hb htx hdx ho hx hu hok hl fun s' G2 ho2 hk => hK s' G2 ?_
  refine hs.call hi (OwnL ie.size s' (vs ++ xs)) fun F h k => ?_
  obtain ⟨_, rfl⟩ := h
  exact k _ _ ⟨ho2, rfl⟩ hk.ch

include ht hd he hz in
/-- A list of one value. -/
theorem buildV {c : AVal} (hs : Sp F0 G0 ps G) (hc : sz c = ie.size) (hie : ie.size ≤ 16777216) (hK : ∀ s' G', Sp F0 G0 (OwnL ie.size s' [c] :: ps) G' → K s' G') : aBuildSlice T ts 1 [(0, c)] G K := by
  unfold aBuildSlice
  have hf : fillA (fun k => some (k * ie.size, ie.size)) (List.replicate 1 ie.zero) [(0, c)] = some [c] := by simp [fillA, hz, hc, szs]
  simp only [ht, hd, he, hf]
  refine ⟨by omega, fun id hfr => hK _ _ (hs.new (p := OwnL ie.size _ [c]) ⟨.inr ⟨id, 1, 1, [c], rfl, Heap.upd_self _ _ _, rfl, Nat.le_refl _, by simp [Esc.uni, hc], rfl⟩, rfl⟩ ?_)⟩
  simpa [rowOf] using Ch.new hfr

end

theorem Sp.nilL {F0 : List AId} {G0 G : Heap} {ps : List LP} (hs : Sp F0 G0 ps G) (n : Nat) : Sp F0 G0 (OwnL n .nilSlice [] :: ps) G := hs.new (p := OwnL n .nilSlice []) ⟨.inl ⟨rfl, rfl⟩, rfl⟩ (Ch.refl _ _)
theorem OwnL.own {F0 : List AId} {G0 G : Heap} {ps : List LP} {i n : Nat} {v : AVal} {vs : List AVal} (h : Sp F0 G0 ps G) (hi : ps[i]? = some (OwnL n v vs)) : Own n G v vs := by
  obtain ⟨F, h, _⟩ := h.get hi
  exact h

end Go.Esc
namespace Go.Esc.M
open Go Go.Esc

theorem length_pens : ∀ {m : List PenM}, (∀ p ∈ m, p.ok) → (m.flatMap PenM.bytes).length = 49 * m.length
  | [], _ => rfl
  | p :: m, h => by
    rw [List.flatMap_cons, List.length_append, PenM.length_bytes (h p (by simp)), length_pens (fun q hq => h q (by simp [hq])), List.length_cons]
    omega

/-- May it stand behind these? -/
structure Okp (pre : List PenM) (p : PenM) : Prop where
  id : 0 ≤ p.id
  amount : 1 ≤ p.amount
  most : p.amount ≤ maxAmount
  pair : ∀ q ∈ pre, ¬ (p.ours = true ∧ q.ours = false) ∧ ¬ (p.ours = q.ours ∧ p.id ≤ q.id)
def Okl : List PenM → List PenM → Prop
  | _, [] => True
  | pre, p :: l => Okp pre p ∧ Okl (pre ++ [p]) l

def cnt (b : Bool) (l : List PenM) : Nat := (l.filter (fun p => p.ours == b)).length
theorem cnt_cons (b : Bool) (p : PenM) (l : List PenM) : cnt b (p :: l) = (if p.ours = b then 1 else 0) + cnt b l := by
  unfold cnt
  cases h : p.ours <;> cases b <;> simp [h] <;> omega

structure Inv (pre : List PenM) (lt lf : Int) (cf : Nat) : Prop where
  lt1 : -1 ≤ lt
  lf1 : -1 ≤ lf
  lt0 : lt = -1 ∨ ∃ q ∈ pre, q.ours = true ∧ q.id = lt
  lf0 : lf = -1 ∨ ∃ q ∈ pre, q.ours = false ∧ q.id = lf
  ltm : ∀ q ∈ pre, q.ours = true → q.id ≤ lt
  lfm : ∀ q ∈ pre, q.ours = false → q.id ≤ lf
  cf0 : 0 < cf ↔ ∃ q ∈ pre, q.ours = false

theorem scan_okl : ∀ (l pre : List PenM) (lt lf : Int) (ct cf : Nat), Inv pre lt lf cf →
    (Okl pre l → scanP lt lf ct cf l = some (ct + cnt true l, cf + cnt false l)) ∧ (¬ Okl pre l → scanP lt lf ct cf l = none)
  | [], pre, lt, lf, ct, cf, h => ⟨fun _ => by simp [scanP, cnt], fun h => absurd trivial h⟩
  | p :: l, pre, lt, lf, ct, cf, h => by
    have key : (p.amount < 1 ∨ maxAmount < p.amount ∨ p.id ≤ (bif p.ours then lt else lf) ∨ (p.ours = true ∧ 0 < cf)) ↔ ¬ Okp pre p := by
      constructor
      · rintro (h1 | h1 | h1 | ⟨h1, h2⟩) hk
        · have := hk.amount; omega
        · have := hk.most; omega
        · cases ho : p.ours with
          | true =>
            rw [ho, cond_true] at h1
            rcases h.lt0 with h2 | ⟨q, hq, h3, h4⟩
            · have := hk.id; omega
            · exact (hk.pair q hq).2 ⟨by rw [ho, h3], by omega⟩
          | false =>
            rw [ho, cond_false] at h1
            rcases h.lf0 with h2 | ⟨q, hq, h3, h4⟩
            · have := hk.id; omega
            · exact (hk.pair q hq).2 ⟨by rw [ho, h3], by omega⟩
        · obtain ⟨q, hq, h3⟩ := h.cf0.1 h2
          exact (hk.pair q hq).1 ⟨h1, h3⟩
      · intro hk
        refine Decidable.byContradiction fun hn => hk ?_
        simp only [not_or] at hn
        obtain ⟨h1, h2, h3, h4⟩ := hn
        have hl := h.lt1
        have hf := h.lf1
        refine ⟨?_, by omega, by omega, fun q hq => ⟨fun hh => h4 ⟨hh.1, h.cf0.2 ⟨q, hq, hh.2⟩⟩, fun hh => ?_⟩⟩
        · cases ho : p.ours <;> simp only [ho, cond_true, cond_false] at h3 <;> omega
        · obtain ⟨e, hle⟩ := hh
          cases ho : p.ours with
          | true =>
            rw [ho, cond_true] at h3
            have := h.ltm q hq (by rw [← e, ho])
            omega
          | false =>
            rw [ho, cond_false] at h3
            have := h.lfm q hq (by rw [← e, ho])
            omega
    rw [scanP]
    by_cases hk : Okp pre p
    · have hn : ¬ (p.amount < 1 ∨ maxAmount < p.amount ∨ p.id ≤ (bif p.ours then lt else lf) ∨ (p.ours = true ∧ 0 < cf)) := fun h => key.1 h hk
      rw [if_neg hn]
      have hid := hk.id
      cases ho : p.ours with
      | true =>
        have hi' : Inv (pre ++ [p]) p.id lf cf := by
          refine ⟨by omega, h.lf1, .inr ⟨p, by simp, ho, rfl⟩, ?_, ?_, ?_, ?_⟩
          · rcases h.lf0 with h | ⟨q, hq, hh⟩
            · exact .inl h
            · exact .inr ⟨q, by simp [hq], hh⟩
          · intro q hq hqo
            rcases List.mem_append.1 hq with hq | hq
            · have := (hk.pair q hq).2
              refine Decidable.byContradiction fun hc => this ⟨by rw [ho, hqo], by omega⟩
            · rw [List.mem_singleton.1 hq]; omega
          · intro q hq hqo
            rcases List.mem_append.1 hq with hq | hq
            · exact h.lfm q hq hqo
            · rw [List.mem_singleton.1 hq, ho] at hqo; cases hqo
          · rw [h.cf0]
            constructor
            · rintro ⟨q, hq, hh⟩; exact ⟨q, by simp [hq], hh⟩
            · rintro ⟨q, hq, hh⟩
              rcases List.mem_append.1 hq with hq | hq
              · exact ⟨q, hq, hh⟩
              · rw [List.mem_singleton.1 hq, ho] at hh; cases hh
        have ih := scan_okl l (pre ++ [p]) p.id lf (ct + 1) cf hi'
        rw [cond_true, cnt_cons, cnt_cons, ho]
        refine ⟨fun hh => ?_, fun hh => ih.2 fun h2 => hh ⟨hk, h2⟩⟩
        rw [ih.1 hh.2, if_pos rfl, if_neg (by simp)]
        congr 2 <;> omega
      | false =>
        have hi' : Inv (pre ++ [p]) lt p.id (cf + 1) := by
          refine ⟨h.lt1, by omega, ?_, .inr ⟨p, by simp, ho, rfl⟩, ?_, ?_, ?_⟩
          · rcases h.lt0 with h | ⟨q, hq, hh⟩
            · exact .inl h
            · exact .inr ⟨q, by simp [hq], hh⟩
          · intro q hq hqo
            rcases List.mem_append.1 hq with hq | hq
            · exact h.ltm q hq hqo
            · rw [List.mem_singleton.1 hq, ho] at hqo; cases hqo
          · intro q hq hqo
            rcases List.mem_append.1 hq with hq | hq
            · have := (hk.pair q hq).2
              refine Decidable.byContradiction fun hc => this ⟨by rw [ho, hqo], by omega⟩
            · rw [List.mem_singleton.1 hq]; omega
          · exact ⟨fun _ => ⟨p, by simp, ho⟩, fun _ => by omega⟩
        have ih := scan_okl l (pre ++ [p]) lt p.id ct (cf + 1) hi'
        rw [cond_false, cnt_cons, cnt_cons, ho]
        refine ⟨fun hh => ?_, fun hh => ih.2 fun h2 => hh ⟨hk, h2⟩⟩
        rw [ih.1 hh.2, if_neg (by simp), if_pos rfl]
        congr 2 <;> omega
    · rw [if_pos (key.2 hk)]
      exact ⟨fun hh => absurd hh.1 hk, fun _ => rfl⟩

theorem inv0 : Inv [] (-1) (-1) 0 := ⟨by omega, by omega, .inl rfl, .inl rfl, by simp, by simp, by simp⟩

theorem Okl.split : ∀ {l pre : List PenM} (j : Nat), Okl pre l ↔ Okl pre (l.take j) ∧ Okl (pre ++ l.take j) (l.drop j)
  | [], pre, j => by simp [Okl]
  | p :: l, pre, 0 => by simp [Okl]
  | p :: l, pre, j + 1 => by
    simp only [Okl, List.take_succ_cons, List.drop_succ_cons]
    rw [Okl.split (l := l) (pre := pre ++ [p]) j, and_assoc, List.append_assoc]
    rfl

theorem Okl.mem : ∀ {l pre : List PenM}, Okl pre l → ∀ p ∈ l, 0 ≤ p.id ∧ 1 ≤ p.amount ∧ p.amount ≤ maxAmount
  | q :: l, pre, h, p, hp => by
    rcases List.mem_cons.1 hp with rfl | hp
    · exact ⟨h.1.id, h.1.amount, h.1.most⟩
    · exact Okl.mem h.2 p hp

/-- Sound, in the document's words. -/
structure SoundD (o q : Int) (l : List PenM) : Prop where
  o0 : 0 ≤ o
  o1 : o ≤ maxAmount
  q0 : 0 ≤ q
  q1 : q ≤ maxAmount
  t : cnt true l ≤ 483
  f : cnt false l ≤ 483
  l : Okl [] l

theorem soundP_iff (o q : Int) (l : List PenM) : soundP o q l = true ↔ SoundD o q l := by
  unfold soundP
  simp only [Bool.and_eq_true, decide_eq_true_eq]
  have h := scan_okl l [] (-1) (-1) 0 0 inv0
  constructor
  · rintro ⟨⟨⟨⟨h1, h2⟩, h3⟩, h4⟩, h5⟩
    have hk : Okl [] l := Classical.byContradiction fun hn => by rw [h.2 hn] at h5; cases h5
    rw [h.1 hk] at h5
    simp only [few, Bool.and_eq_true, decide_eq_true_eq] at h5
    exact ⟨h1, h2, h3, h4, by omega, by omega, hk⟩
  · intro hs
    refine ⟨⟨⟨⟨hs.o0, hs.o1⟩, hs.q0⟩, hs.q1⟩, ?_⟩
    rw [h.1 hs.l]
    have := hs.t
    have := hs.f
    simp only [few, Bool.and_eq_true, decide_eq_true_eq]
    omega

end Go.Esc.M
