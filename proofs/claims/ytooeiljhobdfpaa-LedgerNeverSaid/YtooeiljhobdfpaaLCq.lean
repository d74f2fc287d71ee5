import Derived.Test.YtooeiljhobdfpaaLCx
import Derived.Test.YtooeiljhobdfpaaLAr
/- Own work. Chapter 3: values of the statements; a value laid; a step of a reader. -/
set_option linter.unusedSimpArgs false
set_option linter.unusedVariables false
namespace Go.Esc.M
open Go Go.Esc

/-- The statements' Val. -/
structure ValM where
  kind : Int
  u : Nat
  i : Int
  h : List UInt8
  s : List UInt8
  times : Int

def ValM.av (x : ValM) : AVal := .agg [.int .i64 x.kind, .int .u64 x.u, .int .i64 x.i, .agg (x.h.map u8v), .str x.s, .int .i64 x.times]

structure ValM.ok (x : ValM) (m : Nat) : Prop where
  kind : I64 x.kind
  u : x.u < 2 ^ 64
  i : I64 x.i
  h : x.h.length = 32
  times : I64 x.times
  m : x.s.length + 1 ≤ m

/-- The kind, 0 to 7. -/
def ValM.k (x : ValM) : Int := x.kind % 8

theorem and7 (a : Int) : vbin T .and t_int (.int .i64 a) (.int .i64 7) = some (.int .i64 (a % 8)) := by
  rw [vbin_and]
  have := and_mask a 3 (by omega)
  rw [show ((2 ^ 3 - 1 : Nat) : Int) = 7 from rfl, show ((2 ^ 3 : Nat) : Int) = 8 from rfl] at this
  rw [this]

section
variable {G : Heap} {Q : AVal → Heap → Prop}

/-- A text, often behind itself. -/
def grown (s : List UInt8) : Nat → List UInt8 → List UInt8
  | 0, c => c
  | n + 1, c => if c.length < 70000 ∧ c ≠ [] then grown s n (c ++ s) else c
def ValM.text (x : ValM) : List UInt8 := grown x.s (x.times - 1).toNat x.s

theorem length_grown (s : List UInt8) : ∀ n c, (grown s n c).length ≤ max c.length (70000 + s.length)
  | 0, c => by simp [grown]; omega
  | n + 1, c => by
    unfold grown
    split
    · have := length_grown s n (c ++ s)
      simp at this
      omega
    · omega
theorem ValM.length_text (x : ValM) : x.text.length ≤ 70000 + x.s.length := by
  have := length_grown x.s (x.times - 1).toNat x.s
  unfold ValM.text
  omega

/-- What a writer holds behind a value. -/
def layV (st : List UInt8 × Int) (x : ValM) : List UInt8 × Int :=
  if x.k = 0 then laid st (be 1 (x.u % 256)) else if x.k = 1 then laid st (be 2 (x.u % 65536)) else if x.k = 2 then laid st (be 4 (x.u % 4294967296)) else if x.k = 3 then laid st (be 8 x.u)
  else if x.k = 4 then laid st (be 8 (bits64 x.i)) else if x.k = 5 then laid st x.h else if x.k = 6 then laidText st x.text else laid st x.text

theorem length_laidText (st : List UInt8 × Int) (xs : List UInt8) : (laidText st xs).1.length ≤ st.1.length + xs.length + 2 := by
  unfold laidText
  split
  · simp; omega
  · have := length_laid st (be 2 xs.length ++ xs)
    rw [List.length_append, length_be] at this
    omega

theorem length_layV (st : List UInt8 × Int) {x : ValM} {m : Nat} (hx : x.ok m) : (layV st x).1.length ≤ st.1.length + 70002 + m := by
  have h1 := x.length_text
  have h2 := hx.m
  have l1 := length_laid st (be 1 (x.u % 256))
  have l2 := length_laid st (be 2 (x.u % 65536))
  have l3 := length_laid st (be 4 (x.u % 4294967296))
  have l4 := length_laid st (be 8 x.u)
  have l5 := length_laid st (be 8 (bits64 x.i))
  have l6 := length_laid st x.h
  have l7 := length_laidText st x.text
  have l8 := length_laid st x.text
  rw [length_be] at l1 l2 l3 l4 l5
  rw [hx.h] at l6
  unfold layV
  split <;> (try split) <;> (try split) <;> (try split) <;> (try split) <;> (try split) <;> (try split) <;> omega

theorem ValM.k_range (x : ValM) : 0 ≤ x.k ∧ x.k < 8 := by unfold ValM.k; omega

section
variable {id : AId} {st : List UInt8 × Int} {F : List AId} {x : ValM} {m : Nat}

theorem lays_frame {i : AId} {G2 : Heap} (h : Wr id st G F) (hf : Fresh G i) (hc : Ch [] (G.upd i (.own x.av)) [] G2) : Wr id st G2 F ∧ G2 i = some (.own x.av) ∧ Ch F G F G2 := by
  have h1 := h.ch (hf.ch (o := .own x.av)) (by simp)
  exact ⟨h1.ch hc (by simp), hc.others _ _ (Heap.upd_self _ _ _) (by simp), ((hf.ch (o := .own x.av)).trans hc).grow⟩

theorem ValM.fld {G : Heap} {i : AId} (hx : x.ok m) (hg : G i = some (.own x.av)) :
    vload T G t_uint64 (.ptr i [1] 1) = some (.int .u64 x.u) ∧ vload T G t_int64 (.ptr i [2] 2) = some (.int .i64 x.i) ∧ vload T G t_api_Hash (.ptr i [3] 3) = some (.agg (x.h.map u8v)) := by
  have h1 : szs (x.h.map u8v) = 32 := by rw [szs_uni (n := 1) (uni_u8 x.h)]; simp [hx.h]
  refine ⟨vload_fld (c := .int .u64 x.u) hg rfl rfl rfl T_uint64 rfl, vload_fld (c := .int .i64 x.i) hg rfl rfl rfl T_int64 rfl, vload_fld (c := .agg (x.h.map u8v)) hg rfl rfl rfl T_api_Hash ?_⟩
  simp [vfits, sz, h1, ti_api_Hash, AVal.isAgg, ADesc.isAgg]

end

/-- The statements' Op. -/
structure OpM where
  two : Bool
  v : ValM
  kind : Int
  n : Int

def OpM.av (o : OpM) : AVal := .agg [.bool o.two, o.v.av, .int .i64 o.kind, .int .i64 o.n]
structure OpM.ok (o : OpM) (m : Nat) : Prop where
  v : o.v.ok m
  m : 1 ≤ m

theorem ValM.ok.le {x : ValM} {m m' : Nat} (h : x.ok m) (hm : m ≤ m') : x.ok m' := ⟨h.kind, h.u, h.i, h.h, h.times, Nat.le_trans h.m hm⟩

end
end Go.Esc.M

/- Own work. Chapter 14: ledgers; which are sound. -/
set_option linter.unusedSimpArgs false
set_option linter.unusedVariables false
namespace Go.Esc
open Go Go.RowKit

/-- A map's row. -/
def MapL (id : AId) (es : List (AVal × AVal)) : LP where
  p := fun G F => G id = some (.map es) ∧ F = [id]
  rows := by rintro G F ⟨h, rfl⟩ j hj; simp at hj; subst hj; simp [h]
  loc := by rintro G G' F ⟨h, rfl⟩ hs; exact ⟨by rw [hs id (by simp)]; exact h, rfl⟩
theorem MapL.own {F0 : List AId} {G0 G : Heap} {ps : List LP} {i : Nat} {id : AId} {es : List (AVal × AVal)} (h : Sp F0 G0 ps G) (hi : ps[i]? = some (MapL id es)) : G id = some (.map es) := by
  obtain ⟨F, h, _⟩ := h.get hi
  exact h
theorem Sp.setMap' {F0 : List AId} {G0 G : Heap} {ps : List LP} {j : Nat} {i : AId} {es : List (AVal × AVal)} (h : Sp F0 G0 ps G) (hj : ps[j]? = some (MapL i es)) (es' : List (AVal × AVal)) : Sp F0 G0 (ps.set j (MapL i es')) (G.upd i (.map es')) := by
  refine h.call hj (MapL i es') fun F h k => ?_
  obtain ⟨h, rfl⟩ := h
  exact k _ _ ⟨Heap.upd_self _ _ _, rfl⟩ ⟨roLe_upd h (by simp), fun j x hj hn => by rw [Heap.upd_ne _ _ (fun e => hn (by simp [e]))]; exact hj, fun j hj => .inl hj⟩

/-- How many of each kind. -/
def cmap (ct cf : Nat) : List (AVal × AVal) := (if ct = 0 then [] else [(.bool true, .int .i64 (ct : Int))]) ++ (if cf = 0 then [] else [(.bool false, .int .i64 (cf : Int))])
/-- The last of each kind. -/
def lmap (lt lf : Int) : List (AVal × AVal) := [(.bool true, .int .i64 lt), (.bool false, .int .i64 lf)]

section
variable {T : Tbl} {t kt et : TypeId} {i ki ei : TI} (ht : T t = some i) (hd : i.desc = .map kt et) (hk : T kt = some ki) (hkd : ki.desc = .bool) (he : T et = some ei) (hez : ei.zero = .int .i64 0) {G : Heap} {id : AId}

include ht hd hk hkd he hez in
theorem cmap_look {ct cf : Nat} (hg : G id = some (.map (cmap ct cf))) (b : Bool) : vlookup T G t (.map id) (.bool b) false = some (.int .i64 ((bif b then ct else cf : Nat) : Int)) := by
  have hf : keyFits ki.desc (.bool b) = true := by rw [hkd]; rfl
  by_cases h1 : ct = 0 <;> by_cases h2 : cf = 0 <;> cases b <;> simp [vlookup, ht, hd, hk, he, hf, mapEs, hg, cmap, h1, h2, findA, sameA, hez]
include ht hd hk hkd in
theorem cmap_true {ct : Nat} {K : Heap → Prop} (hg : G id = some (.map (cmap ct 0))) (hK : K (G.upd id (.map (cmap (ct + 1) 0)))) : aMapUpdate T G t (.map id) (.bool true) (.int .i64 ((ct + 1 : Nat) : Int)) K := by
  have hf : keyFits ki.desc (.bool true) = true := by rw [hkd]; rfl
  by_cases h1 : ct = 0
  · subst h1
    simp only [aMapUpdate, ht, hd, hk, hg]
    exact ⟨hf, hK⟩
  · have e1 : cmap ct 0 = [(.bool true, .int .i64 (ct : Int))] := by simp [cmap, h1]
    have e2 : cmap (ct + 1) 0 = [(.bool true, .int .i64 ((ct + 1 : Nat) : Int))] := by simp [cmap]
    rw [e1] at hg
    rw [e2] at hK
    simp only [aMapUpdate, ht, hd, hk, hg]
    exact ⟨hf, hK⟩
include ht hd hk hkd in
theorem cmap_false {ct cf : Nat} {K : Heap → Prop} (hg : G id = some (.map (cmap ct cf))) (hK : K (G.upd id (.map (cmap ct (cf + 1))))) : aMapUpdate T G t (.map id) (.bool false) (.int .i64 ((cf + 1 : Nat) : Int)) K := by
  have hf : keyFits ki.desc (.bool false) = true := by rw [hkd]; rfl
  by_cases h1 : ct = 0 <;> by_cases h2 : cf = 0
  · subst h1 h2
    simp only [aMapUpdate, ht, hd, hk, hg]
    exact ⟨hf, hK⟩
  · have e1 : cmap ct cf = [(.bool false, .int .i64 (cf : Int))] := by simp [cmap, h1, h2]
    have e2 : cmap ct (cf + 1) = [(.bool false, .int .i64 ((cf + 1 : Nat) : Int))] := by simp [cmap, h1]
    rw [e1] at hg
    rw [e2] at hK
    simp only [aMapUpdate, ht, hd, hk, hg]
    exact ⟨hf, hK⟩
  · have e1 : cmap ct cf = [(.bool true, .int .i64 (ct : Int))] := by simp [cmap, h1, h2]
    have e2 : cmap ct (cf + 1) = [(.bool true, .int .i64 (ct : Int)), (.bool false, .int .i64 ((cf + 1 : Nat) : Int))] := by simp [cmap, h1]
    rw [e1] at hg
    rw [e2] at hK
    subst h2
    simp only [aMapUpdate, ht, hd, hk, hg]
    exact ⟨hf, hK⟩
  · have e1 : cmap ct cf = [(.bool true, .int .i64 (ct : Int)), (.bool false, .int .i64 (cf : Int))] := by simp [cmap, h1, h2]
    have e2 : cmap ct (cf + 1) = [(.bool true, .int .i64 (ct : Int)), (.bool false, .int .i64 ((cf + 1 : Nat) : Int))] := by simp [cmap, h1]
    rw [e1] at hg
    rw [e2] at hK
    simp only [aMapUpdate, ht, hd, hk, hg]
    exact ⟨hf, hK⟩
include ht hd hk in
theorem map_upd {es : List (AVal × AVal)} {k v : AVal} {r : Option (Nat × AVal)} {K : Heap → Prop} (hg : G id = some (.map es)) (hf : keyFits ki.desc k = true) (hr : findA k es 0 = some r)
    (hK : K (G.upd id (.map (match r with | some (j, _) => es.set j (k, v) | none => es ++ [(k, v)])))) : aMapUpdate T G t (.map id) k v K := by
  simp only [aMapUpdate, ht, hd, hk, hg, hr]
  refine ⟨hf, ?_⟩
  cases r with
  | none => exact hK
  | some x => exact hK
include ht hd hk hkd he in
theorem lmap_look {lt lf : Int} (hg : G id = some (.map (lmap lt lf))) (b : Bool) : vlookup T G t (.map id) (.bool b) false = some (.int .i64 (bif b then lt else lf)) := by
  have hf : keyFits ki.desc (.bool b) = true := by rw [hkd]; rfl
  cases b <;> simp [vlookup, ht, hd, hk, he, hf, mapEs, hg, lmap, findA, sameA]
include ht hd hk hkd in
theorem lmap_upd {lt lf n : Int} {b : Bool} {K : Heap → Prop} (hg : G id = some (.map (lmap lt lf))) (hK : K (G.upd id (.map (lmap (bif b then n else lt) (bif b then lf else n))))) : aMapUpdate T G t (.map id) (.bool b) (.int .i64 n) K := by
  have hf : keyFits ki.desc (.bool b) = true := by rw [hkd]; rfl
  cases b
  · simp only [aMapUpdate, ht, hd, hk, hg]
    exact ⟨hf, hK⟩
  · simp only [aMapUpdate, ht, hd, hk, hg]
    exact ⟨hf, hK⟩
end

end Go.Esc
namespace Go.Esc.M
open Go Go.Esc

structure PenM where
  ours : Bool
  id : Int
  amount : Int
  hash : List UInt8
  deriving DecidableEq

def PenM.av (p : PenM) : AVal := .agg [.bool p.ours, .int .i64 p.id, .int .i64 p.amount, .agg (p.hash.map u8v)]
structure PenM.ok (p : PenM) : Prop where
  id : I64 p.id
  amount : I64 p.amount
  hash : p.hash.length = 32

theorem PenM.sz {p : PenM} (h : p.ok) : sz p.av = 35 := by
  have h1 : szs (p.hash.map u8v) = 32 := by rw [szs_uni (n := 1) (uni_u8 p.hash)]; simp [h.hash]
  simp [PenM.av, Esc.sz, szs, h1]
theorem PenM.fits {p : PenM} (h : p.ok) : vfits ti_api_Pending p.av = true := by
  have h1 := PenM.sz h
  have h2 : p.av.isAgg = true := rfl
  simp [vfits, h1, h2, ti_api_Pending, ADesc.isAgg]
theorem PenM.okv (p : PenM) : okv p.av = true := by simp [PenM.av, Esc.okv, okvs, okvs_u8]
theorem PenM.fld {G : Heap} {i : AId} {p : PenM} (h : p.ok) (hg : G i = some (.own p.av)) :
    vload T G t_bool (.ptr i [0] 0) = some (.bool p.ours) ∧ vload T G t_int64 (.ptr i [1] 1) = some (.int .i64 p.id) ∧ vload T G t_int64 (.ptr i [2] 2) = some (.int .i64 p.amount) ∧ vload T G t_api_Hash (.ptr i [3] 3) = some (.agg (p.hash.map u8v)) := by
  have h1 : szs (p.hash.map u8v) = 32 := by rw [szs_uni (n := 1) (uni_u8 p.hash)]; simp [h.hash]
  refine ⟨vload_fld (c := .bool p.ours) hg rfl rfl rfl T_bool rfl, vload_fld (c := .int .i64 p.id) hg rfl rfl rfl T_int64 rfl, vload_fld (c := .int .i64 p.amount) hg rfl rfl rfl T_int64 rfl, vload_fld (c := .agg (p.hash.map u8v)) hg rfl rfl rfl T_api_Hash ?_⟩
  simp [vfits, Esc.sz, h1, ti_api_Hash, AVal.isAgg, ADesc.isAgg]

theorem wt_Pen {G : Heap} {R d : Nat} {v : AVal} {m : Nat} (h : wt T G R (d + 3) t_api_Pending v m) : ∃ p : PenM, v = p.av ∧ p.ok ∧ 1 ≤ m := by
  obtain ⟨cs, ms, rfl, hf, rfl⟩ := wt_struct T_api_Pending rfl h
  obtain ⟨c1, cs, m1, ms, rfl, rfl, h1, hf⟩ := wfs_cons hf
  obtain ⟨c2, cs, m2, ms, rfl, rfl, h2, hf⟩ := wfs_cons hf
  obtain ⟨c3, cs, m3, ms, rfl, rfl, h3, hf⟩ := wfs_cons hf
  obtain ⟨c4, cs, m4, ms, rfl, rfl, h4, hf⟩ := wfs_cons hf
  obtain ⟨rfl, rfl⟩ := wfs_nil hf
  obtain ⟨b, rfl, _⟩ := wt_bool T_bool rfl h1
  obtain ⟨i, rfl, w2, _⟩ := wt_int T_int64 rfl h2
  obtain ⟨a, rfl, w3, _⟩ := wt_int T_int64 rfl h3
  obtain ⟨hs, rfl, w4, _⟩ := wt_hash T_api_Hash rfl T_uint8 rfl h4
  exact ⟨⟨b, i, a, hs⟩, rfl, ⟨i64_wf.1 w2, i64_wf.1 w3, w4⟩, by simp⟩

/-- A ledger's value: its list stands in memory. -/
def ledV (o p : Int) (v : AVal) : AVal := .agg [.int .i64 o, .int .i64 p, v]

def maxAmount : Int := 1152921504606846976

def scanP : Int → Int → Nat → Nat → List PenM → Option (Nat × Nat)
  | _, _, ct, cf, [] => some (ct, cf)
  | lt, lf, ct, cf, p :: l =>
    if p.amount < 1 ∨ maxAmount < p.amount ∨ p.id ≤ (bif p.ours then lt else lf) ∨ (p.ours = true ∧ 0 < cf) then none
    else bif p.ours then scanP p.id lf (ct + 1) cf l else scanP lt p.id ct (cf + 1) l
def few (r : Option (Nat × Nat)) : Bool :=
  match r with
  | none => false
  | some (a, b) => decide (a ≤ 483) && decide (b ≤ 483)
def soundP (o q : Int) (l : List PenM) : Bool := decide (0 ≤ o) && decide (o ≤ maxAmount) && decide (0 ≤ q) && decide (q ≤ maxAmount) && few (scanP (-1) (-1) 0 0 l)

section
variable {G : Heap} {Q : AVal → Heap → Prop}

theorem led_fld {i : AId} {o q : Int} {v : AVal} (hv : sz v = 1) (hva : v.isAgg = false) (hg : G i = some (.own (ledV o q v))) :
    vload T G t_int64 (.ptr i [0] 0) = some (.int .i64 o) ∧ vload T G t_int64 (.ptr i [1] 1) = some (.int .i64 q) ∧ vload T G t_sl_api_Pending (.ptr i [2] 2) = some v ∧ vload T G t_api_Ledger (.ptr i [] 0) = some (ledV o q v) := by
  refine ⟨vload_fld (c := .int .i64 o) hg rfl rfl rfl T_int64 rfl, vload_fld (c := .int .i64 q) hg rfl rfl rfl T_int64 rfl, vload_fld (c := v) hg rfl rfl rfl T_sl_api_Pending ?_, whole_load T_api_Ledger hg ?_⟩
  · simp [vfits, hv, hva, ti_sl_api_Pending, ADesc.isAgg]
  · simp [vfits, ledV, sz, szs, hv, ti_api_Ledger, AVal.isAgg, ADesc.isAgg]

theorem sl_leaf {n : Nat} {v : AVal} {vs : List AVal} (h : IsSl n G v vs) : sz v = 1 ∧ v.isAgg = false ∧ okv v = true := by
  rcases h with ⟨_, _, _, _, _, _, rfl, _⟩ | ⟨rfl, _⟩ <;> exact ⟨rfl, rfl, rfl⟩

theorem pen_at {v : AVal} {l : List PenM} {j : Nat} {p : PenM} (h : IsSl 35 G v (l.map PenM.av)) (hj : l[j]? = some p) : ∃ a, viaddr T t_sl_api_Pending v (.int .i64 (j : Int)) = some a ∧ vload T G t_api_Pending a = some p.av :=
  h.at_ (k := .i64) (i := ti_sl_api_Pending) (ie := ti_api_Pending) (T := T) (t := t_sl_api_Pending) (e := t_api_Pending) T_sl_api_Pending rfl T_api_Pending (by rw [List.getElem?_map, hj]; rfl) rfl

end
end Go.Esc.M

/- Own work. Chapter 14: a commitment's bytes, in the program. -/
set_option linter.unusedSimpArgs false
set_option linter.unusedVariables false
namespace Go.Esc.M
open Go Go.Esc

def PenM.bytes (p : PenM) : List UInt8 := be 1 (bif p.ours then 1 else 0) ++ (be 8 (bits64 p.id) ++ (be 8 (bits64 p.amount) ++ p.hash))
theorem PenM.length_bytes {p : PenM} (h : p.ok) : p.bytes.length = 49 := by simp [PenM.bytes, length_be, h.hash]

def textB (owner index : Int) (point : List UInt8) (o q : Int) (l : List PenM) : List UInt8 :=
  be 1 owner.toNat ++ (be 8 (bits64 index) ++ (point ++ (be 8 (bits64 o) ++ (be 8 (bits64 q) ++ (be 2 l.length ++ l.flatMap PenM.bytes)))))
def maxIndex : Int := 281474976710655
def argBad (owner index : Int) : Prop := owner < 0 ∨ 1 < owner ∨ index < 0 ∨ maxIndex < index
instance (owner index : Int) : Decidable (argBad owner index) := inferInstanceAs (Decidable (_ ∨ _ ∨ _ ∨ _))
def textR (owner index : Int) (point : List UInt8) (o q : Int) (l : List PenM) : List UInt8 × Int :=
  if argBad owner index then ([], 1) else bif soundP o q l then (textB owner index point o q l, 0) else ([], 4)

theorem scanP_count : ∀ (l : List PenM) {lt lf : Int} {ct cf a b : Nat}, scanP lt lf ct cf l = some (a, b) → a + b = ct + cf + l.length
  | [], lt, lf, ct, cf, a, b, h => by
    simp only [scanP, Option.some.injEq, Prod.mk.injEq] at h
    simp; omega
  | p :: l, lt, lf, ct, cf, a, b, h => by
    rw [scanP] at h
    split at h
    · cases h
    · cases hp : p.ours with
      | true =>
        rw [hp] at h
        have := scanP_count l h
        simp; omega
      | false =>
        rw [hp] at h
        have := scanP_count l h
        simp; omega

theorem soundP_length {o q : Int} {l : List PenM} (h : soundP o q l = true) : l.length ≤ 966 := by
  unfold soundP at h
  simp only [Bool.and_eq_true] at h
  have h := h.2
  unfold few at h
  split at h
  · cases h
  · rename_i a b he
    have := scanP_count l he
    simp only [Bool.and_eq_true, decide_eq_true_eq] at h
    omega

section
variable {F0 : List AId} {G0 G : Heap} {ps : List LP} {Q : AVal → Heap → Prop}

/-- A value laid by a writer that is not broken. -/
theorem wr {id : AId} {bs xs : List UInt8} {n : FuncId} {args : List AVal} {i : Nat} {K : AVal → Heap → Prop} (hs : Sp F0 G0 ps G) (hi : ps[i]? = some (WrL id bs 0))
    (huse : ∀ {G : Heap} {F : List AId} {Q : AVal → Heap → Prop}, Wr id (bs, 0) G F → (∀ F' G', Wr id (laid (bs, 0) xs) G' F' → Ch F G F' G' → Q (.tuple []) G') → ACalls P n args G Q)
    (hK : ∀ G', Sp F0 G0 (ps.set i (WrL id (bs ++ xs) 0)) G' → K (.tuple []) G') : ACalls P n args G K := by
  refine hs.call hi (WrL id (bs ++ xs) 0) fun F h k => ?_
  exact huse h fun F' G' w c => hK _ (k F' G' w c)

theorem u8_conv (n : Int) (h0 : 0 ≤ n) (h1 : n ≤ 255) : vconv T G t_int t_uint8 (.int .i64 n) = some (.int .u8 (n.toNat : Nat)) := by
  rw [vconv_int T_int T_uint8 rfl, u8_in h0 h1]
  congr 2
  omega

end
end Go.Esc.M

/- Own work. Chapter 14: the document's texts. -/
set_option linter.unusedSimpArgs false
set_option linter.unusedVariables false
namespace Go.Esc
open Go Go.RowKit

end Go.Esc
namespace Go.Esc.M
open Go Go.Esc

theorem length_pens : ∀ {m : List PenM}, (∀ p ∈ m, p.ok) → (m.flatMap PenM.bytes).length = 49 * m.length
  | [], _ => rfl
  | p :: m, h => by
    rw [List.flatMap_cons, List.length_append, PenM.length_bytes (h p (by simp)), length_pens (fun q hq => h q (by simp [hq])), List.length_cons]
    omega

/-- May it stand behind these? -/
structure Okp (pre : List PenM) (p : PenM) : Prop where
  id : 0 ≤ p.id
  amount : 1 ≤ p.amount
  most : p.amount ≤ maxAmount
  pair : ∀ q ∈ pre, ¬ (p.ours = true ∧ q.ours = false) ∧ ¬ (p.ours = q.ours ∧ p.id ≤ q.id)
def Okl : List PenM → List PenM → Prop
  | _, [] => True
  | pre, p :: l => Okp pre p ∧ Okl (pre ++ [p]) l

def cnt (b : Bool) (l : List PenM) : Nat := (l.filter (fun p => p.ours == b)).length
theorem cnt_cons (b : Bool) (p : PenM) (l : List PenM) : cnt b (p :: l) = (if p.ours = b then 1 else 0) + cnt b l := by
  unfold cnt
  cases h : p.ours <;> cases b <;> simp [h] <;> omega

structure Inv (pre : List PenM) (lt lf : Int) (cf : Nat) : Prop where
  lt1 : -1 ≤ lt
  lf1 : -1 ≤ lf
  lt0 : lt = -1 ∨ ∃ q ∈ pre, q.ours = true ∧ q.id = lt
  lf0 : lf = -1 ∨ ∃ q ∈ pre, q.ours = false ∧ q.id = lf
  ltm : ∀ q ∈ pre, q.ours = true → q.id ≤ lt
  lfm : ∀ q ∈ pre, q.ours = false → q.id ≤ lf
  cf0 : 0 < cf ↔ ∃ q ∈ pre, q.ours = false

theorem scan_okl : ∀ (l pre : List PenM) (lt lf : Int) (ct cf : Nat), Inv pre lt lf cf →
    (Okl pre l → scanP lt lf ct cf l = some (ct + cnt true l, cf + cnt false l)) ∧ (¬ Okl pre l → scanP lt lf ct cf l = none)
  | [], pre, lt, lf, ct, cf, h => ⟨fun _ => by simp [scanP, cnt], fun h => absurd trivial h⟩
  | p :: l, pre, lt, lf, ct, cf, h => by
    have key : (p.amount < 1 ∨ maxAmount < p.amount ∨ p.id ≤ (bif p.ours then lt else lf) ∨ (p.ours = true ∧ 0 < cf)) ↔ ¬ Okp pre p := by
      constructor
      · rintro (h1 | h1 | h1 | ⟨h1, h2⟩) hk
        · have := hk.amount; omega
        · have := hk.most; omega
        · cases ho : p.ours with
          | true =>
            rw [ho, cond_true] at h1
            rcases h.lt0 with h2 | ⟨q, hq, h3, h4⟩
            · have := hk.id; omega
            · exact (hk.pair q hq).2 ⟨by rw [ho, h3], by omega⟩
          | false =>
            rw [ho, cond_false] at h1
            rcases h.lf0 with h2 | ⟨q, hq, h3, h4⟩
            · have := hk.id; omega
            · exact (hk.pair q hq).2 ⟨by rw [ho, h3], by omega⟩
        · obtain ⟨q, hq, h3⟩ := h.cf0.1 h2
          exact (hk.pair q hq).1 ⟨h1, h3⟩
      · intro hk
        refine Decidable.byContradiction fun hn => hk ?_
        simp only [not_or] at hn
        obtain ⟨h1, h2, h3, h4⟩ := hn
        have hl := h.lt1
        have hf := h.lf1
        refine ⟨?_, by omega, by omega, fun q hq => ⟨fun hh => h4 ⟨hh.1, h.cf0.2 ⟨q, hq, hh.2⟩⟩, fun hh => ?_⟩⟩
        · cases ho : p.ours <;> simp only [ho, cond_true, cond_false] at h3 <;> omega
        · obtain ⟨e, hle⟩ := hh
          cases ho : p.ours with
          | true =>
            rw [ho, cond_true] at h3
            have := h.ltm q hq (by rw [← e, ho])
            omega
          | false =>
            rw [ho, cond_false] at h3
            have := h.lfm q hq (by rw [← e, ho])
            omega
    rw [scanP]
    by_cases hk : Okp pre p
    · have hn : ¬ (p.amount < 1 ∨ maxAmount < p.amount ∨ p.id ≤ (bif p.ours then lt else lf) ∨ (p.ours = true ∧ 0 < cf)) := fun h => key.1 h hk
      rw [if_neg hn]
      have hid := hk.id
      cases ho : p.ours with
      | true =>
        have hi' : Inv (pre ++ [p]) p.id lf cf := by
          refine ⟨by omega, h.lf1, .inr ⟨p, by simp, ho, rfl⟩, ?_, ?_, ?_, ?_⟩
          · rcases h.lf0 with h | ⟨q, hq, hh⟩
            · exact .inl h
            · exact .inr ⟨q, by simp [hq], hh⟩
          · intro q hq hqo
            rcases List.mem_append.1 hq with hq | hq
            · have := (hk.pair q hq).2
              refine Decidable.byContradiction fun hc => this ⟨by rw [ho, hqo], by omega⟩
            · rw [List.mem_singleton.1 hq]; omega
          · intro q hq hqo
            rcases List.mem_append.1 hq with hq | hq
            · exact h.lfm q hq hqo
            · rw [List.mem_singleton.1 hq, ho] at hqo; cases hqo
          · rw [h.cf0]
            constructor
            · rintro ⟨q, hq, hh⟩; exact ⟨q, by simp [hq], hh⟩
            · rintro ⟨q, hq, hh⟩
              rcases List.mem_append.1 hq with hq | hq
              · exact ⟨q, hq, hh⟩
              · rw [List.mem_singleton.1 hq, ho] at hh; cases hh
        have ih := scan_okl l (pre ++ [p]) p.id lf (ct + 1) cf hi'
        rw [cond_true, cnt_cons, cnt_cons, ho]
        refine ⟨fun hh => ?_, fun hh => ih.2 fun h2 => hh ⟨hk, h2⟩⟩
        rw [ih.1 hh.2, if_pos rfl, if_neg (by simp)]
        congr 2 <;> omega
      | false =>
        have hi' : Inv (pre ++ [p]) lt p.id (cf + 1) := by
          refine ⟨h.lt1, by omega, ?_, .inr ⟨p, by simp, ho, rfl⟩, ?_, ?_, ?_⟩
          · rcases h.lt0 with h | ⟨q, hq, hh⟩
            · exact .inl h
            · exact .inr ⟨q, by simp [hq], hh⟩
          · intro q hq hqo
            rcases List.mem_append.1 hq with hq | hq
            · exact h.ltm q hq hqo
            · rw [List.mem_singleton.1 hq, ho] at hqo; cases hqo
          · intro q hq hqo
            rcases List.mem_append.1 hq with hq | hq
            · have := (hk.pair q hq).2
              refine Decidable.byContradiction fun hc => this ⟨by rw [ho, hqo], by omega⟩
            · rw [List.mem_singleton.1 hq]; omega
          · exact ⟨fun _ => ⟨p, by simp, ho⟩, fun _ => by omega⟩
        have ih := scan_okl l (pre ++ [p]) lt p.id ct (cf + 1) hi'
        rw [cond_false, cnt_cons, cnt_cons, ho]
        refine ⟨fun hh => ?_, fun hh => ih.2 fun h2 => hh ⟨hk, h2⟩⟩
        rw [ih.1 hh.2, if_neg (by simp), if_pos rfl]
        congr 2 <;> omega
    · rw [if_pos (key.2 hk)]
      exact ⟨fun hh => absurd hh.1 hk, fun _ => rfl⟩

theorem inv0 : Inv [] (-1) (-1) 0 := ⟨by omega, by omega, .inl rfl, .inl rfl, by simp, by simp, by simp⟩

theorem Okl.split : ∀ {l pre : List PenM} (j : Nat), Okl pre l ↔ Okl pre (l.take j) ∧ Okl (pre ++ l.take j) (l.drop j)
  | [], pre, j => by simp [Okl]
  | p :: l, pre, 0 => by simp [Okl]
  | p :: l, pre, j + 1 => by
    simp only [Okl, List.take_succ_cons, List.drop_succ_cons]
    rw [Okl.split (l := l) (pre := pre ++ [p]) j, and_assoc, List.append_assoc]
    rfl

theorem Okl.mem : ∀ {l pre : List PenM}, Okl pre l → ∀ p ∈ l, 0 ≤ p.id ∧ 1 ≤ p.amount ∧ p.amount ≤ maxAmount
  | q :: l, pre, h, p, hp => by
    rcases List.mem_cons.1 hp with rfl | hp
    · exact ⟨h.1.id, h.1.amount, h.1.most⟩
    · exact Okl.mem h.2 p hp

/-- Sound, in the document's words. -/
structure SoundD (o q : Int) (l : List PenM) : Prop where
  o0 : 0 ≤ o
  o1 : o ≤ maxAmount
  q0 : 0 ≤ q
  q1 : q ≤ maxAmount
  t : cnt true l ≤ 483
  f : cnt false l ≤ 483
  l : Okl [] l

theorem soundP_iff (o q : Int) (l : List PenM) : soundP o q l = true ↔ SoundD o q l := by
  unfold soundP
  simp only [Bool.and_eq_true, decide_eq_true_eq]
  have h := scan_okl l [] (-1) (-1) 0 0 inv0
  constructor
  · rintro ⟨⟨⟨⟨h1, h2⟩, h3⟩, h4⟩, h5⟩
    have hk : Okl [] l := Classical.byContradiction fun hn => by rw [h.2 hn] at h5; cases h5
    rw [h.1 hk] at h5
    simp only [few, Bool.and_eq_true, decide_eq_true_eq] at h5
    exact ⟨h1, h2, h3, h4, by omega, by omega, hk⟩
  · intro hs
    refine ⟨⟨⟨⟨hs.o0, hs.o1⟩, hs.q0⟩, hs.q1⟩, ?_⟩
    rw [h.1 hs.l]
    have := hs.t
    have := hs.f
    simp only [few, Bool.and_eq_true, decide_eq_true_eq]
    omega

end Go.Esc.M
