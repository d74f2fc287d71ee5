/- Own work. Chapter 14: ledgers; which are sound. -/
import Derived.Test.YtmhhddpkhfohcaaLCy
import Derived.Test.YtmhhddpkhfohcaaLHh
set_option linter.unusedSimpArgs false
set_option linter.unusedVariables false
namespace Go.Esc
open Go Go.RowKit

theorem wv_of {o : Option AVal} {v : AVal} {K : AVal → Prop} (h : o = some v) (k : K v) : wv o K := by rw [h]; exact k
theorem wg_of {o : Option Heap} {v : Heap} {K : Heap → Prop} (h : o = some v) (k : K v) : wg o K := by rw [h]; exact k

section
variable {T : Tbl} {t : TypeId} {ti : TI} {G : Heap} {i : AId} {c z : AVal}
theorem whole_load (ht : T t = some ti) (hg : G i = some (.own c)) (hf : vfits ti c = true) : vload T G t (.ptr i [] 0) = some c := by
  simp [vload, vsub, hg, treeOf, sub, ht, hf]
theorem whole_store (ht : T t = some ti) (hg : G i = some (.own z)) (hf : vfits ti c = true) (hs : sz z = sz c) (hok : okv c = true) : vstore T G t (.ptr i [] 0) c = some (G.upd i (.own c)) := by
  simp [vstore, hg, sub, ht, hf, hs, hok, putAt]

/-- A new variable with a value. -/
theorem newVal {F0 : List AId} {G0 : Heap} {ps : List LP} {K : AId → Heap → Prop} (hs : Sp F0 G0 ps G) (ht : T t = some ti) (hf : vfits ti c = true) (hz : sz z = sz c) (hok : okv c = true) (hK : ∀ i G', Sp F0 G0 (RowL i c :: ps) G' → K i G') :
    aNew G (.own z) fun i G2 => wg (vstore T G2 t (.ptr i [] 0) c) fun G3 => K i G3 := by
  intro i hfr
  have s := hs.row hfr z
  rw [whole_store ht (RowL.own (i := 0) s rfl) hf hz hok, wg_some]
  refine hK _ _ ?_
  refine s.call (i := 0) rfl (RowL i c) fun F h k => ?_
  obtain ⟨h, rfl⟩ := h
  exact k _ _ ⟨Heap.upd_self _ _ _, rfl⟩ ⟨roLe_upd h (by simp), fun j x hj hn => by rw [Heap.upd_ne _ _ (fun e => hn (by simp [e]))]; exact hj, fun j hj => .inl hj⟩
end

theorem IsSl.ch' {n : Nat} {G G' : Heap} {E : List AId} {v : AVal} {vs : List AVal} (h : IsSl n G v vs) (hc : Ch [] G E G') : IsSl n G' v vs := h.le fun j o hj => hc.others j o hj (by simp)

/-- A map's row. -/
def MapL (id : AId) (es : List (AVal × AVal)) : LP where
  p := fun G F => G id = some (.map es) ∧ F = [id]
  rows := by rintro G F ⟨h, rfl⟩ j hj; simp at hj; subst hj; simp [h]
  loc := by rintro G G' F ⟨h, rfl⟩ hs; exact ⟨by rw [hs id (by simp)]; exact h, rfl⟩
theorem MapL.own {F0 : List AId} {G0 G : Heap} {ps : List LP} {i : Nat} {id : AId} {es : List (AVal × AVal)} (h : Sp F0 G0 ps G) (hi : ps[i]? = some (MapL id es)) : G id = some (.map es) := by
  obtain ⟨F, h, _⟩ := h.get hi
  exact h
theorem Sp.setMap' {F0 : List AId} {G0 G : Heap} {ps : List LP} {j : Nat} {i : AId} {es : List (AVal × AVal)} (h : Sp F0 G0 ps G) (hj : ps[j]? = some (MapL i es)) (es' : List (AVal × AVal)) : Sp F0 G0 (ps.set j (MapL i es')) (G.upd i (.map es')) := by
  refine h.call hj (MapL i es') fun F h k => ?_
  obtain ⟨h, rfl⟩ := h
  exact k _ _ ⟨Heap.upd_self _ _ _, rfl⟩ ⟨roLe_upd h (by simp), fun j x hj hn => by rw [Heap.upd_ne _ _ (fun e => hn (by simp [e]))]; exact hj, fun j hj => .inl hj⟩

/-- How many of each kind. -/
def cmap (ct cf : Nat) : List (AVal × AVal) := (if ct = 0 then [] else [(.bool true, .int .i64 (ct : Int))]) ++ (if cf = 0 then [] else [(.bool false, .int .i64 (cf : Int))])
/-- The last of each kind. -/
def lmap (lt lf : Int) : List (AVal × AVal) := [(.bool true, .int .i64 lt), (.bool false, .int .i64 lf)]

section
variable {T : Tbl} {t kt et : TypeId} {i ki ei : TI} (ht : T t = some i) (hd : i.desc = .map kt et) (hk : T kt = some ki) (hkd : ki.desc = .bool) (he : T et = some ei) (hez : ei.zero = .int .i64 0) {G : Heap} {id : AId}

include ht hd hk hkd he hez in
theorem cmap_look {ct cf : Nat} (hg : G id = some (.map (cmap ct cf))) (b : Bool) : vlookup T G t (.map id) (.bool b) false = some (.int .i64 ((bif b then ct else cf : Nat) : Int)) := by
  have hf : keyFits ki.desc (.bool b) = true := by rw [hkd]; rfl
  by_cases h1 : ct = 0 <;> by_cases h2 : cf = 0 <;> cases b <;> simp [vlookup, ht, hd, hk, he, hf, mapEs, hg, cmap, h1, h2, findA, sameA, hez]
include ht hd hk hkd in
theorem cmap_true {ct : Nat} {K : Heap → Prop} (hg : G id = some (.map (cmap ct 0))) (hK : K (G.upd id (.map (cmap (ct + 1) 0)))) : aMapUpdate T G t (.map id) (.bool true) (.int .i64 ((ct + 1 : Nat) : Int)) K := by
  have hf : keyFits ki.desc (.bool true) = true := by rw [hkd]; rfl
  by_cases h1 : ct = 0
  · subst h1
    simp only [aMapUpdate, ht, hd, hk, hg]
    exact ⟨hf, hK⟩
  · have e1 : cmap ct 0 = [(.bool true, .int .i64 (ct : Int))] := by simp [cmap, h1]
    have e2 : cmap (ct + 1) 0 = [(.bool true, .int .i64 ((ct + 1 : Nat) : Int))] := by simp [cmap]
    rw [e1] at hg
    rw [e2] at hK
    simp only [aMapUpdate, ht, hd, hk, hg]
    exact ⟨hf, hK⟩
include ht hd hk hkd in
theorem cmap_false {ct cf : Nat} {K : Heap → Prop} (hg : G id = some (.map (cmap ct cf))) (hK : K (G.upd id (.map (cmap ct (cf + 1))))) : aMapUpdate T G t (.map id) (.bool false) (.int .i64 ((cf + 1 : Nat) : Int)) K := by
  have hf : keyFits ki.desc (.bool false) = true := by rw [hkd]; rfl
  by_cases h1 : ct = 0 <;> by_cases h2 : cf = 0
  · subst h1 h2
    simp only [aMapUpdate, ht, hd, hk, hg]
    exact ⟨hf, hK⟩
  · have e1 : cmap ct cf = [(.bool false, .int .i64 (cf : Int))] := by simp [cmap, h1, h2]
    have e2 : cmap ct (cf + 1) = [(.bool false, .int .i64 ((cf + 1 : Nat) : Int))] := by simp [cmap, h1]
    rw [e1] at hg
    rw [e2] at hK
    simp only [aMapUpdate, ht, hd, hk, hg]
    exact ⟨hf, hK⟩
  · have e1 : cmap ct cf = [(.bool true, .int .i64 (ct : Int))] := by simp [cmap, h1, h2]
    have e2 : cmap ct (cf + 1) = [(.bool true, .int .i64 (ct : Int)), (.bool false, .int .i64 ((cf + 1 : Nat) : Int))] := by simp [cmap, h1]
    rw [e1] at hg
    rw [e2] at hK
    subst h2
    simp only [aMapUpdate, ht, hd, hk, hg]
    exact ⟨hf, hK⟩
  · have e1 : cmap ct cf = [(.bool true, .int .i64 (ct : Int)), (.bool false, .int .i64 (cf : Int))] := by simp [cmap, h1, h2]
    have e2 : cmap ct (cf + 1) = [(.bool true, .int .i64 (ct : Int)), (.bool false, .int .i64 ((cf + 1 : Nat) : Int))] := by simp [cmap, h1]
    rw [e1] at hg
    rw [e2] at hK
    simp only [aMapUpdate, ht, hd, hk, hg]
    exact ⟨hf, hK⟩
include ht hd hk in
theorem map_upd {es : List (AVal × AVal)} {k v : AVal} {r : Option (Nat × AVal)} {K : Heap → Prop} (hg : G id = some (.map es)) (hf : keyFits ki.desc k = true) (hr : findA k es 0 = some r)
    (hK : K (G.upd id (.map (match r with | some (j, _) => es.set j (k, v) | none => es ++ [(k, v)])))) : aMapUpdate T G t (.map id) k v K := by
  simp only [aMapUpdate, ht, hd, hk, hg, hr]
  refine ⟨hf, ?_⟩
  cases r with
  | none => exact hK
  | some x => exact hK
include ht hd hk hkd he in
theorem lmap_look {lt lf : Int} (hg : G id = some (.map (lmap lt lf))) (b : Bool) : vlookup T G t (.map id) (.bool b) false = some (.int .i64 (bif b then lt else lf)) := by
  have hf : keyFits ki.desc (.bool b) = true := by rw [hkd]; rfl
  cases b <;> simp [vlookup, ht, hd, hk, he, hf, mapEs, hg, lmap, findA, sameA]
include ht hd hk hkd in
theorem lmap_upd {lt lf n : Int} {b : Bool} {K : Heap → Prop} (hg : G id = some (.map (lmap lt lf))) (hK : K (G.upd id (.map (lmap (bif b then n else lt) (bif b then lf else n))))) : aMapUpdate T G t (.map id) (.bool b) (.int .i64 n) K := by
  have hf : keyFits ki.desc (.bool b) = true := by rw [hkd]; rfl
  cases b
  · simp only [aMapUpdate, ht, hd, hk, hg]
    exact ⟨hf, hK⟩
  · simp only [aMapUpdate, ht, hd, hk, hg]
    exact ⟨hf, hK⟩
end

end Go.Esc
namespace Go.Esc.M
open Go Go.Esc

structure PenM where
  ours : Bool
  id : Int
  amount : Int
  hash : List UInt8
  deriving DecidableEq

def PenM.av (p : PenM) : AVal := .agg [.bool p.ours, .int .i64 p.id, .int .i64 p.amount, .agg (p.hash.map u8v)]
structure PenM.ok (p : PenM) : Prop where
  id : I64 p.id
  amount : I64 p.amount
  hash : p.hash.length = 32

theorem PenM.sz {p : PenM} (h : p.ok) : sz p.av = 35 := by
  have h1 : szs (p.hash.map u8v) = 32 := by rw [szs_uni (n := 1) (uni_u8 p.hash)]; simp [h.hash]
  simp [PenM.av, Esc.sz, szs, h1]
theorem PenM.okv (p : PenM) : okv p.av = true := by simp [PenM.av, Esc.okv, okvs, okvs_u8]
theorem PenM.fld {G : Heap} {i : AId} {p : PenM} (h : p.ok) (hg : G i = some (.own p.av)) :
    vload T G t_bool (.ptr i [0] 0) = some (.bool p.ours) ∧ vload T G t_int64 (.ptr i [1] 1) = some (.int .i64 p.id) ∧ vload T G t_int64 (.ptr i [2] 2) = some (.int .i64 p.amount) ∧ vload T G t_api_Hash (.ptr i [3] 3) = some (.agg (p.hash.map u8v)) := by
  have h1 : szs (p.hash.map u8v) = 32 := by rw [szs_uni (n := 1) (uni_u8 p.hash)]; simp [h.hash]
  refine ⟨vload_fld (c := .bool p.ours) hg rfl rfl rfl T_bool rfl, vload_fld (c := .int .i64 p.id) hg rfl rfl rfl T_int64 rfl, vload_fld (c := .int .i64 p.amount) hg rfl rfl rfl T_int64 rfl, vload_fld (c := .agg (p.hash.map u8v)) hg rfl rfl rfl T_api_Hash ?_⟩
  simp [vfits, Esc.sz, h1, ti_api_Hash, AVal.isAgg, ADesc.isAgg]

/-- A ledger's value: its list stands in memory. -/
def ledV (o p : Int) (v : AVal) : AVal := .agg [.int .i64 o, .int .i64 p, v]

def maxAmount : Int := 1152921504606846976

def scanP : Int → Int → Nat → Nat → List PenM → Option (Nat × Nat)
  | _, _, ct, cf, [] => some (ct, cf)
  | lt, lf, ct, cf, p :: l =>
    if p.amount < 1 ∨ maxAmount < p.amount ∨ p.id ≤ (bif p.ours then lt else lf) ∨ (p.ours = true ∧ 0 < cf) then none
    else bif p.ours then scanP p.id lf (ct + 1) cf l else scanP lt p.id ct (cf + 1) l
def few (r : Option (Nat × Nat)) : Bool :=
  match r with
  | none => false
  | some (a, b) => decide (a ≤ 483) && decide (b ≤ 483)
def soundP (o q : Int) (l : List PenM) : Bool := decide (0 ≤ o) && decide (o ≤ maxAmount) && decide (0 ≤ q) && decide (q ≤ maxAmount) && few (scanP (-1) (-1) 0 0 l)

section
variable {G : Heap} {Q : AVal → Heap → Prop}

theorem sl_leaf {n : Nat} {v : AVal} {vs : List AVal} (h : IsSl n G v vs) : sz v = 1 ∧ v.isAgg = false ∧ okv v = true := by
  rcases h with ⟨_, _, _, _, _, _, rfl, _⟩ | ⟨rfl, _⟩ <;> exact ⟨rfl, rfl, rfl⟩

end
end Go.Esc.M
