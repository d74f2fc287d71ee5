import Derived.Test.YtbckpbdamfhehaaGreatDoorLCx
import Derived.Test.YtbckpbdamfhehaaGreatDoorLSh
/- Own work. Chapter 3: values of the statements; a value laid; a step of a reader. -/
set_option linter.unusedSimpArgs false
set_option linter.unusedVariables false
set_option maxRecDepth 20000
namespace Go.Esc.M
open Go Go.Esc

/-- The statements' Val. -/
structure ValM where
  kind : Int
  u : Nat
  i : Int
  h : List UInt8
  s : List UInt8
  times : Int

def ValM.av (x : ValM) : AVal := .agg [.int .i64 x.kind, .int .u64 x.u, .int .i64 x.i, .agg (x.h.map u8v), .str x.s, .int .i64 x.times]

structure ValM.ok (x : ValM) (m : Nat) : Prop where
  kind : I64 x.kind
  u : x.u < 2 ^ 64
  i : I64 x.i
  h : x.h.length = 32
  times : I64 x.times
  m : x.s.length + 1 ≤ m

/-- The kind, 0 to 7. -/
def ValM.k (x : ValM) : Int := x.kind % 8

section
variable {G : Heap} {Q : AVal → Heap → Prop}

/-- A text, often behind itself. -/
def grown (s : List UInt8) : Nat → List UInt8 → List UInt8
  | 0, c => c
  | n + 1, c => if c.length < 70000 ∧ c ≠ [] then grown s n (c ++ s) else c
def ValM.text (x : ValM) : List UInt8 := grown x.s (x.times - 1).toNat x.s

section
variable {id : AId} {st : List UInt8 × Int} {F : List AId} {x : ValM} {m : Nat}

theorem ValM.fld {G : Heap} {i : AId} (hx : x.ok m) (hg : G i = some (.own x.av)) :
    vload T G t_uint64 (.ptr i [1] 1) = some (.int .u64 x.u) ∧ vload T G t_int64 (.ptr i [2] 2) = some (.int .i64 x.i) ∧ vload T G t_api_Hash (.ptr i [3] 3) = some (.agg (x.h.map u8v)) := by
  have h1 : szs (x.h.map u8v) = 32 := by rw [szs_uni (n := 1) (uni_u8 x.h)]; simp [hx.h]
  refine ⟨vload_fld (c := .int .u64 x.u) hg rfl rfl rfl T_uint64 rfl, vload_fld (c := .int .i64 x.i) hg rfl rfl rfl T_int64 rfl, vload_fld (c := .agg (x.h.map u8v)) hg rfl rfl rfl T_api_Hash ?_⟩
  simp [vfits, sz, h1, ti_api_Hash, AVal.isAgg, ADesc.isAgg]

end

/-- The statements' Op. -/
structure OpM where
  two : Bool
  v : ValM
  kind : Int
  n : Int

def OpM.av (o : OpM) : AVal := .agg [.bool o.two, o.v.av, .int .i64 o.kind, .int .i64 o.n]
structure OpM.ok (o : OpM) (m : Nat) : Prop where
  v : o.v.ok m
  m : 1 ≤ m

theorem ValM.ok.le {x : ValM} {m m' : Nat} (h : x.ok m) (hm : m ≤ m') : x.ok m' := ⟨h.kind, h.u, h.i, h.h, h.times, Nat.le_trans h.m hm⟩

end
end Go.Esc.M

/- Own work. Chapter 14: ledgers; which are sound. -/
set_option linter.unusedSimpArgs false
set_option linter.unusedVariables false
set_option maxRecDepth 20000
namespace Go.Esc
open Go Go.RowKit

/-- A map's row. -/
def MapL (id : AId) (es : List (AVal × AVal)) : LP where
  p := fun G F => G id = some (.map es) ∧ F = [id]
  rows := by rintro G F ⟨h, rfl⟩ j hj; simp at hj; subst hj; simp [h]
  loc := by rintro G G' F ⟨h, rfl⟩ hs; exact ⟨by rw [hs id (by simp)]; exact h, rfl⟩
theorem MapL.own {F0 : List AId} {G0 G : Heap} {ps : List LP} {i : Nat} {id : AId} {es : List (AVal × AVal)} (h : Sp F0 G0 ps G) (hi : ps[i]? = some (MapL id es)) : G id = some (.map es) := by
  obtain ⟨F, h, _⟩ := h.get hi
  exact h
theorem Sp.setMap' {F0 : List AId} {G0 G : Heap} {ps : List LP} {j : Nat} {i : AId} {es : List (AVal × AVal)} (h : Sp F0 G0 ps G) (hj : ps[j]? = some (MapL i es)) (es' : List (AVal × AVal)) : Sp F0 G0 (ps.set j (MapL i es')) (G.upd i (.map es')) := by
  refine h.call hj (MapL i es') fun F h k => ?_
  obtain ⟨h, rfl⟩ := h
  exact k _ _ ⟨Heap.upd_self _ _ _, rfl⟩ ⟨roLe_upd h (by simp), fun j x hj hn => by rw [Heap.upd_ne _ _ (fun e => hn (by simp [e]))]; exact hj, fun j hj => .inl hj⟩

/-- How many of each kind. -/
def cmap (ct cf : Nat) : List (AVal × AVal) := (if ct = 0 then [] else [(.bool true, .int .i64 (ct : Int))]) ++ (if cf = 0 then [] else [(.bool false, .int .i64 (cf : Int))])
/-- The last of each kind. -/
def lmap (lt lf : Int) : List (AVal × AVal) := [(.bool true, .int .i64 lt), (.bool false, .int .i64 lf)]

section
variable {T : Tbl} {t kt et : TypeId} {i ki ei : TI} (ht : T t = some i) (hd : i.desc = .map kt et) (hk : T kt = some ki) (hkd : ki.desc = .bool) (he : T et = some ei) (hez : ei.zero = .int .i64 0) {G : Heap} {id : AId}

include ht hd hk hkd he hez in
theorem cmap_look {ct cf : Nat} (hg : G id = some (.map (cmap ct cf))) (b : Bool) : vlookup T G t (.map id) (.bool b) false = some (.int .i64 ((bif b then ct else cf : Nat) : Int)) := by
  have hf : keyFits ki.desc (.bool b) = true := by rw [hkd]; rfl
  by_cases h1 : ct = 0 <;> by_cases h2 : cf = 0 <;> cases b <;> simp [vlookup, ht, hd, hk, he, hf, mapEs, hg, cmap, h1, h2, findA, sameA, hez]
include ht hd hk hkd in
theorem cmap_true {ct : Nat} {K : Heap → Prop} (hg : G id = some (.map (cmap ct 0))) (hK : K (G.upd id (.map (cmap (ct + 1) 0)))) : aMapUpdate T G t (.map id) (.bool true) (.int .i64 ((ct + 1 : Nat) : Int)) K := by
  have hf : keyFits ki.desc (.bool true) = true := by rw [hkd]; rfl
  by_cases h1 : ct = 0
  · subst h1
    simp only [aMapUpdate, ht, hd, hk, hg]
    exact ⟨hf, hK⟩
  · have e1 : cmap ct 0 = [(.bool true, .int .i64 (ct : Int))] := by simp [cmap, h1]
    have e2 : cmap (ct + 1) 0 = [(.bool true, .int .i64 ((ct + 1 : Nat) : Int))] := by simp [cmap]
    rw [e1] at hg
    rw [e2] at hK
    simp only [aMapUpdate, ht, hd, hk, hg]
    exact ⟨hf, hK⟩
include ht hd hk hkd in
theorem cmap_false {ct cf : Nat} {K : Heap → Prop} (hg : G id = some (.map (cmap ct cf))) (hK : K (G.upd id (.map (cmap ct (cf + 1))))) : aMapUpdate T G t (.map id) (.bool false) (.int .i64 ((cf + 1 : Nat) : Int)) K := by
  have hf : keyFits ki.desc (.bool false) = true := by rw [hkd]; rfl
  by_cases h1 : ct = 0 <;> by_cases h2 : cf = 0
  · subst h1 h2
    simp only [aMapUpdate, ht, hd, hk, hg]
    exact ⟨hf, hK⟩
  · have e1 : cmap ct cf = [(.bool false, .int .i64 (cf : Int))] := by simp [cmap, h1, h2]
    have e2 : cmap ct (cf + 1) = [(.bool false, .int .i64 ((cf + 1 : Nat) : Int))] := by simp [cmap, h1]
    rw [e1] at hg
    rw [e2] at hK
    simp only [aMapUpdate, ht, hd, hk, hg]
    exact ⟨hf, hK⟩
  · have e1 : cmap ct cf = [(.bool true, .int .i64 (ct : Int))] := by simp [cmap, h1, h2]
    have e2 : cmap ct (cf + 1) = [(.bool true, .int .i64 (ct : Int)), (.bool false, .int .i64 ((cf + 1 : Nat) : Int))] := by simp [cmap, h1]
    rw [e1] at hg
    rw [e2] at hK
    subst h2
    simp only [aMapUpdate, ht, hd, hk, hg]
    exact ⟨hf, hK⟩
  · have e1 : cmap ct cf = [(.bool true, .int .i64 (ct : Int)), (.bool false, .int .i64 (cf : Int))] := by simp [cmap, h1, h2]
    have e2 : cmap ct (cf + 1) = [(.bool true, .int .i64 (ct : Int)), (.bool false, .int .i64 ((cf + 1 : Nat) : Int))] := by simp [cmap, h1]
    rw [e1] at hg
    rw [e2] at hK
    simp only [aMapUpdate, ht, hd, hk, hg]
    exact ⟨hf, hK⟩
include ht hd hk in
theorem map_upd {es : List (AVal × AVal)} {k v : AVal} {r : Option (Nat × AVal)} {K : Heap → Prop} (hg : G id = some (.map es)) (hf : keyFits ki.desc k = true) (hr : findA k es 0 = some r)
    (hK : K (G.upd id (.map (match r with | some (j, _) => es.set j (k, v) | none => es ++ [(k, v)])))) : aMapUpdate T G t (.map id) k v K := by
  simp only [aMapUpdate, ht, hd, hk, hg, hr]
  refine ⟨hf, ?_⟩
  cases r with
  | none => exact hK
  | some x => exact hK
include ht hd hk hkd he in
theorem lmap_look {lt lf : Int} (hg : G id = some (.map (lmap lt lf))) (b : Bool) : vlookup T G t (.map id) (.bool b) false = some (.int .i64 (bif b then lt else lf)) := by
  have hf : keyFits ki.desc (.bool b) = true := by rw [hkd]; rfl
  cases b <;> simp [vlookup, ht, hd, hk, he, hf, mapEs, hg, lmap, findA, sameA]
include ht hd hk hkd in
theorem lmap_upd {lt lf n : Int} {b : Bool} {K : Heap → Prop} (hg : G id = some (.map (lmap lt lf))) (hK : K (G.upd id (.map (lmap (bif b then n else lt) (bif b then lf else n))))) : aMapUpdate T G t (.map id) (.bool b) (.int .i64 n) K := by
  have hf : keyFits ki.desc (.bool b) = true := by rw [hkd]; rfl
  cases b
  · simp only [aMapUpdate, ht, hd, hk, hg]
    exact ⟨hf, hK⟩
  · simp only [aMapUpdate, ht, hd, hk, hg]
    exact ⟨hf, hK⟩
end

end Go.Esc
namespace Go.Esc.M
open Go Go.Esc

structure PenM where
  ours : Bool
  id : Int
  amount : Int
  hash : List UInt8
  deriving DecidableEq

def PenM.av (p : PenM) : AVal := .agg [.bool p.ours, .int .i64 p.id, .int .i64 p.amount, .agg (p.hash.map u8v)]
structure PenM.ok (p : PenM) : Prop where
  id : I64 p.id
  amount : I64 p.amount
  hash : p.hash.length = 32

theorem PenM.sz {p : PenM} (h : p.ok) : sz p.av = 35 := by
  have h1 : szs (p.hash.map u8v) = 32 := by rw [szs_uni (n := 1) (uni_u8 p.hash)]; simp [h.hash]
  simp [PenM.av, Esc.sz, szs, h1]
theorem PenM.fits {p : PenM} (h : p.ok) : vfits ti_api_Pending p.av = true := by
  have h1 := PenM.sz h
  have h2 : p.av.isAgg = true := rfl
  simp [vfits, h1, h2, ti_api_Pending, ADesc.isAgg]
theorem PenM.okv (p : PenM) : okv p.av = true := by simp [PenM.av, Esc.okv, okvs, okvs_u8]
theorem PenM.fld {G : Heap} {i : AId} {p : PenM} (h : p.ok) (hg : G i = some (.own p.av)) :
    vload T G t_bool (.ptr i [0] 0) = some (.bool p.ours) ∧ vload T G t_int64 (.ptr i [1] 1) = some (.int .i64 p.id) ∧ vload T G t_int64 (.ptr i [2] 2) = some (.int .i64 p.amount) ∧ vload T G t_api_Hash (.ptr i [3] 3) = some (.agg (p.hash.map u8v)) := by
  have h1 : szs (p.hash.map u8v) = 32 := by rw [szs_uni (n := 1) (uni_u8 p.hash)]; simp [h.hash]
  refine ⟨vload_fld (c := .bool p.ours) hg rfl rfl rfl T_bool rfl, vload_fld (c := .int .i64 p.id) hg rfl rfl rfl T_int64 rfl, vload_fld (c := .int .i64 p.amount) hg rfl rfl rfl T_int64 rfl, vload_fld (c := .agg (p.hash.map u8v)) hg rfl rfl rfl T_api_Hash ?_⟩
  simp [vfits, Esc.sz, h1, ti_api_Hash, AVal.isAgg, ADesc.isAgg]

/-- A ledger's value: its list stands in memory. -/
def ledV (o p : Int) (v : AVal) : AVal := .agg [.int .i64 o, .int .i64 p, v]

def maxAmount : Int := 1152921504606846976

def scanP : Int → Int → Nat → Nat → List PenM → Option (Nat × Nat)
  | _, _, ct, cf, [] => some (ct, cf)
  | lt, lf, ct, cf, p :: l =>
    if p.amount < 1 ∨ maxAmount < p.amount ∨ p.id ≤ (bif p.ours then lt else lf) ∨ (p.ours = true ∧ 0 < cf) then none
    else bif p.ours then scanP p.id lf (ct + 1) cf l else scanP lt p.id ct (cf + 1) l
def few (r : Option (Nat × Nat)) : Bool :=
  match r with
  | none => false
  | some (a, b) => decide (a ≤ 483) && decide (b ≤ 483)
def soundP (o q : Int) (l : List PenM) : Bool := decide (0 ≤ o) && decide (o ≤ maxAmount) && decide (0 ≤ q) && decide (q ≤ maxAmount) && few (scanP (-1) (-1) 0 0 l)

section
variable {G : Heap} {Q : AVal → Heap → Prop}

theorem led_fld {i : AId} {o q : Int} {v : AVal} (hv : sz v = 1) (hva : v.isAgg = false) (hg : G i = some (.own (ledV o q v))) :
    vload T G t_int64 (.ptr i [0] 0) = some (.int .i64 o) ∧ vload T G t_int64 (.ptr i [1] 1) = some (.int .i64 q) ∧ vload T G t_sl_api_Pending (.ptr i [2] 2) = some v ∧ vload T G t_api_Ledger (.ptr i [] 0) = some (ledV o q v) := by
  refine ⟨vload_fld (c := .int .i64 o) hg rfl rfl rfl T_int64 rfl, vload_fld (c := .int .i64 q) hg rfl rfl rfl T_int64 rfl, vload_fld (c := v) hg rfl rfl rfl T_sl_api_Pending ?_, whole_load T_api_Ledger hg ?_⟩
  · simp [vfits, hv, hva, ti_sl_api_Pending, ADesc.isAgg]
  · simp [vfits, ledV, sz, szs, hv, ti_api_Ledger, AVal.isAgg, ADesc.isAgg]

theorem sl_leaf {n : Nat} {v : AVal} {vs : List AVal} (h : IsSl n G v vs) : sz v = 1 ∧ v.isAgg = false ∧ okv v = true := by
  rcases h with ⟨_, _, _, _, _, _, rfl, _⟩ | ⟨rfl, _⟩ <;> exact ⟨rfl, rfl, rfl⟩

theorem pen_at {v : AVal} {l : List PenM} {j : Nat} {p : PenM} (h : IsSl 35 G v (l.map PenM.av)) (hj : l[j]? = some p) : ∃ a, viaddr T t_sl_api_Pending v (.int .i64 (j : Int)) = some a ∧ vload T G t_api_Pending a = some p.av :=
  h.at_ (k := .i64) (i := ti_sl_api_Pending) (ie := ti_api_Pending) (T := T) (t := t_sl_api_Pending) (e := t_api_Pending) T_sl_api_Pending rfl T_api_Pending (by rw [List.getElem?_map, hj]; rfl) rfl

set_option maxHeartbeats 1000000 in
theorem commit_sound.use {o q : Int} {v : AVal} {l : List PenM} (hl : IsSl 35 G v (l.map PenM.av)) (hok : ∀ p ∈ l, p.ok) (hlen : l.length ≤ 9223372036854775807) (hQ : ∀ G', Ch [] G [] G' → Q (.bool (soundP o q l)) G') :
    ACalls P commit_sound.n [ledV o q v] G Q := by
  obtain ⟨hv1, hv2, _⟩ := sl_leaf hl
  refine commit_sound.sound ?_
  unfold commit_sound.S
  obtain ⟨mA, hmA⟩ : ∃ m, m = (1152921504606846976 : Int) := ⟨_, rfl⟩
  rw [← hmA]
  have hmax : maxAmount = mA := by rw [hmA]; rfl
  intro i1 f1
  have s1 := (Sp.nil G).row f1 (ledV o q v)
  obtain ⟨f0, f1', f2, _⟩ := led_fld hv1 hv2 (RowL.own (i := 0) s1 rfl)
  revert s1 f0 f1' f2
  generalize G.upd i1 (.own (ledV o q v)) = G2
  intro s1 f0 f1' f2 J62
  have hbad : soundP o q l = false → J62 (.bool true) G2 := by
    intro h
    simp -zeta only [J62, brB_true]
    rw [← h]
    exact hQ _ s1.ch
  have hgood : soundP o q l = few (scanP (-1) (-1) 0 0 l) → J62 (.bool false) G2 := by
    intro he
    rw [he] at hQ
    simp -zeta only [J62, brB_false]
    intro i13 f13
    have s14 := s1.new (p := MapL i13 (cmap 0 0)) ⟨Heap.upd_self _ _ _, rfl⟩ (Ch.new f13)
    intro i15 f15
    have s16 := s14.new (p := MapL i15 []) ⟨Heap.upd_self _ _ _, rfl⟩ (Ch.new f15)
    refine map_upd (T := T) (i := ti_map_bool_int64) T_map_bool_int64 rfl T_bool (r := none) (MapL.own (i := 0) s16 rfl) rfl rfl ?_
    have s17 := Sp.setMap' s16 (j := 0) rfl [(.bool true, .int .i64 (-1))]
    refine map_upd (T := T) (i := ti_map_bool_int64) T_map_bool_int64 rfl T_bool (r := none) (MapL.own (i := 0) s17 rfl) rfl rfl ?_
    have s18 : Sp [] G [MapL i15 (lmap (-1) (-1)), MapL i13 (cmap 0 0), RowL i1 (ledV o q v)] _ := Sp.setMap' s17 (j := 0) rfl (lmap (-1) (-1))
    have hl18 := hl.ch' s18.ch
    refine wv_of (led_fld hv1 hv2 (RowL.own (i := 2) s18 rfl)).2.2.1 ?_
    refine wv_of (hl18.len (i := ti_sl_api_Pending) T_sl_api_Pending rfl) ?_
    rw [List.length_map]
    intro R21 hR21
    have look1 : ∀ {G' : Heap} {ct cf : Nat}, G' i13 = some (.map (cmap ct cf)) → ∀ b, vlookup T G' t_map_bool_int (.map i13) (.bool b) false = some (.int .i64 ((bif b then ct else cf : Nat) : Int)) := fun hg b => cmap_look (T := T) (i := ti_map_bool_int) T_map_bool_int rfl T_bool rfl T_int rfl hg b
    have look2 : ∀ {G' : Heap} {lt lf : Int}, G' i15 = some (.map (lmap lt lf)) → ∀ b, vlookup T G' t_map_bool_int64 (.map i15) (.bool b) false = some (.int .i64 (bif b then lt else lf)) := fun hg b => lmap_look (T := T) (i := ti_map_bool_int64) T_map_bool_int64 rfl T_bool rfl T_int64 hg b
    have loop : ∀ (n j : Nat) (lt lf : Int) (ct cf : Nat) (G' : Heap), l.length - j = n → j ≤ l.length → ct ≤ j → cf ≤ j → (∀ b, few (scanP lt lf ct cf (l.drop j)) = b → few (scanP (-1) (-1) 0 0 l) = b) →
        Sp [] G [MapL i15 (lmap lt lf), MapL i13 (cmap ct cf), RowL i1 (ledV o q v)] G' → R21 [.map i13, .map i15, v, .int .i64 (l.length : Nat), .int .i64 (j : Int)] G' := by
      intro n
      induction n with
      | zero =>
        intro j lt lf ct cf G' hn hj hct hcf hb hs
        have : j = l.length := by omega
        subst this
        have g13 := MapL.own (i := 1) hs rfl
        rw [List.drop_length] at hb
        have hb := hb _ rfl
        refine hR21 _ _ _ _ _ _ ?_
        rw [vbin_lss, wv_some, brB_dec]
        refine ⟨fun h => absurd h (by omega), fun _ => ?_⟩
        rw [look1 g13, wv_some, vbin_leq, wv_some, look1 g13, brB_dec]
        refine ⟨fun h1 => ?_, fun h1 => ?_⟩
        · rw [wv_some, vbin_leq, wv_some]
          have := hQ _ hs.ch
          rw [hb] at this
          have e : few (scanP lt lf ct cf []) = decide ((((bif false then ct else cf : Nat)) : Int) ≤ 483) := by
            have h1 : ct ≤ 483 := by have : ((ct : Nat) : Int) ≤ 483 := h1; omega
            simp only [scanP, few, cond_false, decide_eq_true h1, Bool.true_and]
            rw [decide_eq_decide]
            omega
          rw [← e]
          exact this
        · have := hQ _ hs.ch
          rw [hb] at this
          have e : few (scanP lt lf ct cf []) = false := by
            have h1 : ¬ ct ≤ 483 := fun h => h1 (by show ((ct : Nat) : Int) ≤ 483; omega)
            simp only [scanP, few, decide_eq_false h1, Bool.false_and]
          rw [e] at this
          exact this
      | succ n ih =>
        intro j lt lf ct cf G' hn hj hct hcf hb hs
        have hjl : j < l.length := by omega
        obtain ⟨p, hp⟩ : ∃ p, l[j]? = some p := ⟨_, List.getElem?_eq_getElem hjl⟩
        have hpo := hok p (List.mem_of_getElem? hp)
        obtain ⟨a, ha, hla⟩ := pen_at (hl.ch' hs.ch) hp
        have hdr : l.drop j = p :: l.drop (j + 1) := by
          obtain ⟨hx, rfl⟩ := List.getElem?_eq_some_iff.1 hp
          exact List.drop_eq_getElem_cons hx
        rw [hdr, scanP] at hb
        refine hR21 _ _ _ _ _ _ ?_
        rw [vbin_lss, wv_some, brB_dec]
        refine ⟨fun _ => ?_, fun h => absurd (by omega) h⟩
        rw [ha, wv_some, hla, wv_some]
        refine newVal hs T_api_Pending (PenM.fits hpo) (by rw [PenM.sz hpo]; rfl) (PenM.okv p) fun i31 G33 s33 => ?_
        have g15 := MapL.own (i := 1) s33 rfl
        have g13 := MapL.own (i := 2) s33 rfl
        obtain ⟨k0, k1, k2, _⟩ := PenM.fld hpo (RowL.own (i := 0) s33 rfl)
        intro J54
        have jbad : few none = few (scanP (-1) (-1) 0 0 l) → J54 (.bool true) G33 := by
          intro h
          simp -zeta only [J54, brB_true]
          have := hQ _ s33.ch
          rw [← h] at this
          exact this
        have jok : (∀ b, few (bif p.ours then scanP p.id lf (ct + 1) cf (l.drop (j + 1)) else scanP lt p.id ct (cf + 1) (l.drop (j + 1))) = b → few (scanP (-1) (-1) 0 0 l) = b) → (p.ours = true → cf = 0) → J54 (.bool false) G33 := by
          intro hnext hcf0
          simp -zeta only [J54, brB_false]
          rw [k0, wv_some, k1, wv_some]
          refine lmap_upd (T := T) (i := ti_map_bool_int64) T_map_bool_int64 rfl T_bool rfl g15 ?_
          have s49 := Sp.setMap' s33 (j := 1) rfl (lmap (bif p.ours then p.id else lt) (bif p.ours then lf else p.id))
          obtain ⟨k0', _⟩ := PenM.fld hpo (RowL.own (i := 0) s49 rfl)
          have g13' := MapL.own (i := 2) s49 rfl
          refine wv_of k0' ?_
          refine wv_of (look1 g13' p.ours) ?_
          rw [vbin_add, wv_some]
          cases hpo2 : p.ours with
          | true =>
            have h0 := hcf0 hpo2
            subst h0
            rw [hpo2] at hnext s49 g13'
            simp only [cond_true] at hnext s49 ⊢
            rw [i64_in (by omega) (by omega), show ((ct : Int) + 1) = ((ct + 1 : Nat) : Int) by omega]
            refine cmap_true (T := T) (i := ti_map_bool_int) T_map_bool_int rfl T_bool rfl g13' ?_
            rw [vbin_add, wv_some, i64_in (by omega) (by omega)]
            exact ih (j + 1) p.id lf (ct + 1) 0 _ (by omega) (by omega) (by omega) (by omega) hnext ((Sp.setMap' s49 (j := 2) rfl (cmap (ct + 1) 0)).erase 0)
          | false =>
            rw [hpo2] at hnext s49 g13'
            simp only [cond_false] at hnext s49 ⊢
            rw [i64_in (by omega) (by omega), show ((cf : Int) + 1) = ((cf + 1 : Nat) : Int) by omega]
            refine cmap_false (T := T) (i := ti_map_bool_int) T_map_bool_int rfl T_bool rfl g13' ?_
            rw [vbin_add, wv_some, i64_in (by omega) (by omega)]
            exact ih (j + 1) lt p.id ct (cf + 1) _ (by omega) (by omega) (by omega) (by omega) hnext ((Sp.setMap' s49 (j := 2) rfl (cmap ct (cf + 1))).erase 0)
        rw [k2, wv_some, vbin_lss, wv_some, brB_dec]
        refine ⟨fun h1 => jbad (hb _ (by rw [if_pos (.inl h1)])).symm, fun h1 => ?_⟩
        rw [wv_some, vbin_gtr, wv_some, brB_dec]
        refine ⟨fun h2 => jbad (hb _ (by rw [if_pos (.inr (.inl (by rw [hmax]; exact h2)))])).symm, fun h2 => ?_⟩
        rw [k1, wv_some, k0, wv_some, look2 g15, wv_some, vbin_leq, wv_some, brB_dec]
        refine ⟨fun h3 => jbad (hb _ (by rw [if_pos (.inr (.inr (.inl h3)))])).symm, fun h3 => ?_⟩
        rw [wv_some]
        rw [brB_bool]
        refine ⟨fun h4 => ?_, fun h4 => ?_⟩
        · rw [look1 g13, wv_some, vbin_gtr, wv_some]
          by_cases h5 : 0 < cf
          · have e5 : decide ((0 : Int) < ((bif false then ct else cf : Nat) : Int)) = true := by
              rw [decide_eq_true_eq]
              show (0 : Int) < (cf : Int)
              omega
            rw [e5]
            exact jbad (hb _ (by rw [if_pos (.inr (.inr (.inr ⟨h4, h5⟩)))])).symm
          · have e5 : decide ((0 : Int) < ((bif false then ct else cf : Nat) : Int)) = false := by
              rw [decide_eq_false_iff_not]
              show ¬ (0 : Int) < (cf : Int)
              omega
            rw [e5]
            refine jok (fun b h => hb b ?_) fun _ => by omega
            rw [if_neg (fun h => by rcases h with h | h | h | h; exact h1 h; exact h2 (by rw [← hmax]; exact h); exact h3 h; exact h5 h.2)]
            exact h
        · refine jok (fun b h => hb b ?_) fun h => by rw [h4] at h; cases h
          rw [if_neg (fun h => by rcases h with h | h | h | h; exact h1 h; exact h2 (by rw [← hmax]; exact h); exact h3 h; rw [h4] at h; cases h.1)]
          exact h
    exact loop _ 0 (-1) (-1) 0 0 _ rfl (by omega) (by omega) (by omega) (fun b h => h) s18
  rw [f0, wv_some, vbin_lss, wv_some, brB_dec]
  refine ⟨fun h => hbad ?_, fun h0 => ?_⟩
  · simp only [soundP, decide_eq_false (show ¬ 0 ≤ o by omega), Bool.false_and]
  rw [wv_some, vbin_gtr, wv_some, brB_dec]
  refine ⟨fun h => hbad ?_, fun h1 => ?_⟩
  · simp only [soundP, decide_eq_false (show ¬ o ≤ maxAmount by rw [hmax]; omega), Bool.false_and, Bool.and_false]
  rw [f1', wv_some, vbin_lss, wv_some, brB_dec]
  refine ⟨fun h => hbad ?_, fun h2 => ?_⟩
  · simp only [soundP, decide_eq_false (show ¬ 0 ≤ q by omega), Bool.false_and, Bool.and_false]
  rw [wv_some, vbin_gtr, wv_some]
  by_cases h3 : mA < q
  · rw [decide_eq_true h3]
    refine hbad ?_
    simp only [soundP, decide_eq_false (show ¬ q ≤ maxAmount by rw [hmax]; omega), Bool.false_and, Bool.and_false]
  · rw [decide_eq_false h3]
    refine hgood ?_
    simp only [soundP, decide_eq_true (show 0 ≤ o by omega), decide_eq_true (show 0 ≤ q by omega), decide_eq_true (show o ≤ maxAmount by rw [hmax]; omega), decide_eq_true (show q ≤ maxAmount by rw [hmax]; omega), Bool.true_and]

end
end Go.Esc.M

/- Own work. Chapter 14: a commitment's bytes, in the program. -/
set_option linter.unusedSimpArgs false
set_option linter.unusedVariables false
set_option maxRecDepth 20000
namespace Go.Esc.M
open Go Go.Esc

def PenM.bytes (p : PenM) : List UInt8 := be 1 (bif p.ours then 1 else 0) ++ (be 8 (bits64 p.id) ++ (be 8 (bits64 p.amount) ++ p.hash))
theorem PenM.length_bytes {p : PenM} (h : p.ok) : p.bytes.length = 49 := by simp [PenM.bytes, length_be, h.hash]

def textB (owner index : Int) (point : List UInt8) (o q : Int) (l : List PenM) : List UInt8 :=
  be 1 owner.toNat ++ (be 8 (bits64 index) ++ (point ++ (be 8 (bits64 o) ++ (be 8 (bits64 q) ++ (be 2 l.length ++ l.flatMap PenM.bytes)))))
def maxIndex : Int := 281474976710655
def argBad (owner index : Int) : Prop := owner < 0 ∨ 1 < owner ∨ index < 0 ∨ maxIndex < index
instance (owner index : Int) : Decidable (argBad owner index) := inferInstanceAs (Decidable (_ ∨ _ ∨ _ ∨ _))
def textR (owner index : Int) (point : List UInt8) (o q : Int) (l : List PenM) : List UInt8 × Int :=
  if argBad owner index then ([], 1) else bif soundP o q l then (textB owner index point o q l, 0) else ([], 4)

theorem scanP_count : ∀ (l : List PenM) {lt lf : Int} {ct cf a b : Nat}, scanP lt lf ct cf l = some (a, b) → a + b = ct + cf + l.length
  | [], lt, lf, ct, cf, a, b, h => by
    simp only [scanP, Option.some.injEq, Prod.mk.injEq] at h
    simp; omega
  | p :: l, lt, lf, ct, cf, a, b, h => by
    rw [scanP] at h
    split at h
    · cases h
    · cases hp : p.ours with
      | true =>
        rw [hp] at h
        have := scanP_count l h
        simp; omega
      | false =>
        rw [hp] at h
        have := scanP_count l h
        simp; omega

theorem soundP_length {o q : Int} {l : List PenM} (h : soundP o q l = true) : l.length ≤ 966 := by
  unfold soundP at h
  simp only [Bool.and_eq_true] at h
  have h := h.2
  unfold few at h
  split at h
  · cases h
  · rename_i a b he
    have := scanP_count l he
    simp only [Bool.and_eq_true, decide_eq_true_eq] at h
    omega

section
variable {F0 : List AId} {G0 G : Heap} {ps : List LP} {Q : AVal → Heap → Prop}

/-- A value laid by a writer that is not broken. -/
theorem wr {id : AId} {bs xs : List UInt8} {n : FuncId} {args : List AVal} {i : Nat} {K : AVal → Heap → Prop} (hs : Sp F0 G0 ps G) (hi : ps[i]? = some (WrL id bs 0))
    (huse : ∀ {G : Heap} {F : List AId} {Q : AVal → Heap → Prop}, Wr id (bs, 0) G F → (∀ F' G', Wr id (laid (bs, 0) xs) G' F' → Ch F G F' G' → Q (.tuple []) G') → ACalls P n args G Q)
    (hK : ∀ G', Sp F0 G0 (ps.set i (WrL id (bs ++ xs) 0)) G' → K (.tuple []) G') : ACalls P n args G K := by
  refine hs.call hi (WrL id (bs ++ xs) 0) fun F h k => ?_
  exact huse h fun F' G' w c => hK _ (k F' G' w c)

theorem u8_conv (n : Int) (h0 : 0 ≤ n) (h1 : n ≤ 255) : vconv T G t_int t_uint8 (.int .i64 n) = some (.int .u8 (n.toNat : Nat)) := by
  rw [vconv_int T_int T_uint8 rfl, u8_in h0 h1]
  congr 2
  omega

set_option maxHeartbeats 1000000 in
theorem commit_Text.use {owner index o q : Int} {point : List UInt8} {v : AVal} {l : List PenM} (hp : point.length = 32) (hl : IsSl 35 G v (l.map PenM.av)) (hok : ∀ p ∈ l, p.ok) (hlen : l.length ≤ 9223372036854775807)
    (hQ : ∀ G', Ch [] G [] G' → Q (.tuple [.str (textR owner index point o q l).1, .int .i64 (textR owner index point o q l).2]) G') :
    ACalls P commit_Text.n [.int .i64 owner, .int .i64 index, .agg (point.map u8v), ledV o q v] G Q := by
  obtain ⟨hv1, hv2, _⟩ := sl_leaf hl
  refine commit_Text.sound ?_
  unfold commit_Text.S
  obtain ⟨mI, hmI⟩ : ∃ m, m = (281474976710655 : Int) := ⟨_, rfl⟩
  rw [← hmI]
  have hmax : maxIndex = mI := by rw [hmI]; rfl
  intro i1 f1
  have s1 := (Sp.nil G).row f1 (.agg (point.map u8v))
  intro i3 f3
  have s3 := s1.row f3 (ledV o q v)
  revert s3
  generalize Heap.upd _ i3 (.own (ledV o q v)) = G4
  intro s3 J71
  have hbad : argBad owner index → J71 (.bool true) G4 := by
    intro h
    simp -zeta only [J71, brB_true]
    have := hQ _ s3.ch
    rw [textR, if_pos h] at this
    exact this
  have hgood : ¬ argBad owner index → J71 (.bool false) G4 := by
    intro h
    rw [textR, if_neg h] at hQ
    have ho : owner = 0 ∨ owner = 1 := by
      unfold argBad at h
      omega
    simp -zeta only [J71, brB_false]
    refine wv_of (led_fld hv1 hv2 (RowL.own (i := 0) s3 rfl)).2.2.2 ?_
    refine commit_sound.use (hl.ch' s3.ch) hok hlen fun G13 c13 => ?_
    have s13 := s3.tmp c13
    rw [vun_not, wv_some]
    cases hsd : soundP o q l with
    | false =>
      rw [Bool.not_false, brB_true]
      have := hQ _ s13.ch
      rw [hsd] at this
      exact this
    | true =>
      rw [Bool.not_true, brB_false]
      have hl966 := soundP_length hsd
      simp only [hsd, cond_true] at hQ
      refine cursor_New.use fun iw G16 w16 c16 => ?_
      have s16 := s13.new (p := WrL iw [] 0) w16 c16
      refine wv_of (u8_conv owner (by omega) (by omega)) ?_
      refine wr (i := 0) s16 rfl (fun h k => cursor_Writer_U8.use (by omega) h (by simp) k) fun G19 s19 => ?_
      refine wr (i := 0) s19 rfl (fun h k => cursor_Writer_I64.use h (by simp [length_be]) k) fun G21 s21 => ?_
      refine wv_of (load_hash hp (RowL.own (i := 2) s21 rfl)) ?_
      refine wr (i := 0) s21 rfl (fun h k => cursor_Writer_Hash.use hp h (by simp [length_be]) k) fun G24 s24 => ?_
      refine wv_of (led_fld hv1 hv2 (RowL.own (i := 1) s24 rfl)).1 ?_
      refine wr (i := 0) s24 rfl (fun h k => cursor_Writer_I64.use h (by simp [length_be, hp]) k) fun G27 s27 => ?_
      refine wv_of (led_fld hv1 hv2 (RowL.own (i := 1) s27 rfl)).2.1 ?_
      refine wr (i := 0) s27 rfl (fun h k => cursor_Writer_I64.use h (by simp [length_be, hp]) k) fun G30 s30 => ?_
      refine wv_of (led_fld hv1 hv2 (RowL.own (i := 1) s30 rfl)).2.2.1 ?_
      have hlen' : ∀ G', Ch [] G [] G' → vlen T G' t_sl_api_Pending v = some (.int .i64 (l.length : Nat)) := fun G' c => by
        rw [(hl.ch' c).len (i := ti_sl_api_Pending) T_sl_api_Pending rfl, List.length_map]
      refine wv_of (hlen' _ s30.ch) ?_
      rw [vconv_int T_int T_uint16 rfl, wv_some, u16_in (by omega) (by omega)]
      refine wr (i := 0) s30 rfl (fun h k => cursor_Writer_U16.use (by omega) h (by simp [length_be, hp]) k) fun G35 s35 => ?_
      refine wv_of (led_fld hv1 hv2 (RowL.own (i := 1) s35 rfl)).2.2.1 ?_
      refine wv_of (hlen' _ s35.ch) ?_
      intro R38 hR38
      obtain ⟨H, hH, hHl⟩ : ∃ H : List UInt8, [] ++ be 1 owner.toNat ++ be 8 (bits64 index) ++ point ++ be 8 (bits64 o) ++ be 8 (bits64 q) ++ be 2 l.length = H ∧ H.length = 59 := ⟨_, rfl, by simp [length_be, hp]⟩
      have htb : textB owner index point o q l = H ++ l.flatMap PenM.bytes := by rw [← hH]; simp [textB]
      rw [hH] at s35
      have hfm : ∀ j, ((l.take j).flatMap PenM.bytes).length ≤ 49 * l.length := by
        intro j
        have : ∀ m : List PenM, (∀ p ∈ m, p.ok) → (m.flatMap PenM.bytes).length = 49 * m.length := by
          intro m hm
          induction m with
          | nil => rfl
          | cons p m ih =>
            rw [List.flatMap_cons, List.length_append, PenM.length_bytes (hm p (by simp)), ih (fun p hp => hm p (by simp [hp])), List.length_cons]
            omega
        rw [this _ (fun p hp => hok p (List.mem_of_mem_take hp)), List.length_take]
        omega
      have loop : ∀ (n j : Nat) (G' : Heap), l.length - j = n → j ≤ l.length → Sp [] G [WrL iw (H ++ (l.take j).flatMap PenM.bytes) 0, RowL i3 (ledV o q v), RowL i1 (.agg (point.map u8v))] G' →
          R38 [.ptr iw [] 0, v, .int .i64 (l.length : Nat), .int .i64 (j : Int)] G' := by
        intro n
        induction n with
        | zero =>
          intro j G' hn hj hs
          have : j = l.length := by omega
          subst this
          rw [List.take_of_length_le (Nat.le_refl _), ← htb] at hs
          refine hR38 _ _ _ _ _ ?_
          rw [vbin_lss, wv_some, brB_dec]
          refine ⟨fun h => absurd h (by omega), fun _ => ?_⟩
          obtain ⟨F, hw⟩ := hs.get (i := 0) rfl
          refine cursor_Writer_Out.use (st := (textB owner index point o q l, 0)) hw ?_
          rw [vext0, wv_some, vext1, wv_some, if_pos rfl]
          exact hQ _ hs.ch
        | succ n ih =>
          intro j G' hn hj hs
          obtain ⟨p, hp'⟩ : ∃ p, l[j]? = some p := ⟨_, List.getElem?_eq_getElem (by omega)⟩
          have hpo := hok p (List.mem_of_getElem? hp')
          obtain ⟨a, ha, hla⟩ := pen_at (hl.ch' hs.ch) hp'
          have hfj := hfm j
          refine hR38 _ _ _ _ _ ?_
          rw [vbin_lss, wv_some, brB_dec]
          refine ⟨fun _ => ?_, fun h => absurd (by omega) h⟩
          rw [ha, wv_some, hla, wv_some]
          refine newVal hs T_api_Pending (PenM.fits hpo) (by rw [PenM.sz hpo]; rfl) (PenM.okv p) fun i47 G49 s49 => ?_
          refine wv_of (PenM.fld hpo (RowL.own (i := 0) s49 rfl)).1 ?_
          intro J65
          have h65 : ∀ (G55 : Heap) (x : Nat), x = (bif p.ours then 1 else 0) → Sp [] G [RowL i47 p.av, WrL iw (H ++ (l.take j).flatMap PenM.bytes ++ be 1 x) 0, RowL i3 (ledV o q v), RowL i1 (.agg (point.map u8v))] G55 → J65 G55 := by
            intro G55 x hx s55
            simp -zeta only [J65]
            refine wv_of (PenM.fld hpo (RowL.own (i := 0) s55 rfl)).2.1 ?_
            refine wr (i := 1) s55 rfl (fun h k => cursor_Writer_I64.use h (by simp only [List.length_append, length_be]; omega) k) fun G58 s58 => ?_
            refine wv_of (PenM.fld hpo (RowL.own (i := 0) s58 rfl)).2.2.1 ?_
            refine wr (i := 1) s58 rfl (fun h k => cursor_Writer_I64.use h (by simp only [List.length_append, length_be]; omega) k) fun G61 s61 => ?_
            refine wv_of (PenM.fld hpo (RowL.own (i := 0) s61 rfl)).2.2.2 ?_
            refine wr (i := 1) s61 rfl (fun h k => cursor_Writer_Hash.use hpo.hash h (by simp only [List.length_append, length_be]; omega) k) fun G64 s64 => ?_
            rw [vbin_add, wv_some, i64_in (by omega) (by omega)]
            refine ih (j + 1) G64 (by omega) (by omega) ?_
            have e : H ++ (l.take (j + 1)).flatMap PenM.bytes = H ++ (l.take j).flatMap PenM.bytes ++ be 1 x ++ be 8 (bits64 p.id) ++ be 8 (bits64 p.amount) ++ p.hash := by
              rw [List.take_add_one, hp', hx]
              simp [PenM.bytes]
            rw [e]
            exact s64.erase 0
          rw [brB_bool]
          refine ⟨fun h => ?_, fun h => ?_⟩
          · exact wr (i := 1) (xs := be 1 1) s49 rfl (fun h k => cursor_Writer_U8.use (v := 1) (by omega) h (by simp only [List.length_append, length_be]; omega) k) fun G52 s52 => h65 G52 1 (by rw [h]; rfl) s52
          · exact wr (i := 1) (xs := be 1 0) s49 rfl (fun h k => cursor_Writer_U8.use (v := 0) (by omega) h (by simp only [List.length_append, length_be]; omega) k) fun G52 s52 => h65 G52 0 (by rw [h]; rfl) s52
      exact loop _ 0 G35 rfl (by omega) (by simpa using s35)
  rw [vbin_lss, wv_some, brB_dec]
  refine ⟨fun h => hbad (.inl h), fun h0 => ?_⟩
  rw [vbin_gtr, wv_some, brB_dec]
  refine ⟨fun h => hbad (.inr (.inl h)), fun h1 => ?_⟩
  rw [vbin_lss, wv_some, brB_dec]
  refine ⟨fun h => hbad (.inr (.inr (.inl h))), fun h2 => ?_⟩
  rw [vbin_gtr, wv_some]
  by_cases h3 : mI < index
  · rw [decide_eq_true h3]
    exact hbad (.inr (.inr (.inr (by rw [hmax]; exact h3))))
  · rw [decide_eq_false h3]
    refine hgood fun h => ?_
    rcases h with h | h | h | h
    · exact h0 h
    · exact h1 h
    · exact h2 h
    · exact h3 (by rw [← hmax]; exact h)

end
end Go.Esc.M

/- Own work. Chapter 14: the document's texts. -/
set_option linter.unusedSimpArgs false
set_option linter.unusedVariables false
set_option maxRecDepth 20000
namespace Go.Esc
open Go Go.RowKit

end Go.Esc
namespace Go.Esc.M
open Go Go.Esc

/-- May it stand behind these? -/
structure Okp (pre : List PenM) (p : PenM) : Prop where
  id : 0 ≤ p.id
  amount : 1 ≤ p.amount
  most : p.amount ≤ maxAmount
  pair : ∀ q ∈ pre, ¬ (p.ours = true ∧ q.ours = false) ∧ ¬ (p.ours = q.ours ∧ p.id ≤ q.id)
def Okl : List PenM → List PenM → Prop
  | _, [] => True
  | pre, p :: l => Okp pre p ∧ Okl (pre ++ [p]) l

def cnt (b : Bool) (l : List PenM) : Nat := (l.filter (fun p => p.ours == b)).length
structure Inv (pre : List PenM) (lt lf : Int) (cf : Nat) : Prop where
  lt1 : -1 ≤ lt
  lf1 : -1 ≤ lf
  lt0 : lt = -1 ∨ ∃ q ∈ pre, q.ours = true ∧ q.id = lt
  lf0 : lf = -1 ∨ ∃ q ∈ pre, q.ours = false ∧ q.id = lf
  ltm : ∀ q ∈ pre, q.ours = true → q.id ≤ lt
  lfm : ∀ q ∈ pre, q.ours = false → q.id ≤ lf
  cf0 : 0 < cf ↔ ∃ q ∈ pre, q.ours = false

theorem Okl.split : ∀ {l pre : List PenM} (j : Nat), Okl pre l ↔ Okl pre (l.take j) ∧ Okl (pre ++ l.take j) (l.drop j)
  | [], pre, j => by simp [Okl]
  | p :: l, pre, 0 => by simp [Okl]
  | p :: l, pre, j + 1 => by
    simp only [Okl, List.take_succ_cons, List.drop_succ_cons]
    rw [Okl.split (l := l) (pre := pre ++ [p]) j, and_assoc, List.append_assoc]
    rfl

theorem Okl.mem : ∀ {l pre : List PenM}, Okl pre l → ∀ p ∈ l, 0 ≤ p.id ∧ 1 ≤ p.amount ∧ p.amount ≤ maxAmount
  | q :: l, pre, h, p, hp => by
    rcases List.mem_cons.1 hp with rfl | hp
    · exact ⟨h.1.id, h.1.amount, h.1.most⟩
    · exact Okl.mem h.2 p hp

/-- Sound, in the document's words. -/
structure SoundD (o q : Int) (l : List PenM) : Prop where
  o0 : 0 ≤ o
  o1 : o ≤ maxAmount
  q0 : 0 ≤ q
  q1 : q ≤ maxAmount
  t : cnt true l ≤ 483
  f : cnt false l ≤ 483
  l : Okl [] l

end Go.Esc.M

/- Own work. Chapter 14: the document's texts, walked. -/
set_option linter.unusedSimpArgs false
set_option linter.unusedVariables false
set_option maxRecDepth 20000
namespace Go.Esc.M
open Go Go.Esc

section
variable {F0 : List AId} {G0 G : Heap} {ps : List LP} {Q : AVal → Heap → Prop}

end
end Go.Esc.M
