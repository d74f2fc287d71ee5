/- Own work. Chapter 14: ledgers; which are sound. -/
import Derived.Test.YtdbkngfdaeminaaLCy
import Derived.Test.YtdbkngfdaeminaaLHh
import Derived.Test.YtdbkngfdaeminaaLAr
set_option linter.unusedSimpArgs false
set_option linter.unusedVariables false
set_option maxRecDepth 20000
namespace Go.Esc
open Go Go.RowKit

/-- A map's row. -/
def MapL (id : AId) (es : List (AVal × AVal)) : LP where
  p := fun G F => G id = some (.map es) ∧ F = [id]
  rows := by rintro G F ⟨h, rfl⟩ j hj; simp at hj; subst hj; simp [h]
  loc := by rintro G G' F ⟨h, rfl⟩ hs; exact ⟨by rw [hs id (by simp)]; exact h, rfl⟩
theorem MapL.own {F0 : List AId} {G0 G : Heap} {ps : List LP} {i : Nat} {id : AId} {es : List (AVal × AVal)} (h : Sp F0 G0 ps G) (hi : ps[i]? = some (MapL id es)) : G id = some (.map es) := by
  obtain ⟨F, h, _⟩ := h.get hi
  exact h
theorem Sp.setMap' {F0 : List AId} {G0 G : Heap} {ps : List LP} {j : Nat} {i : AId} {es : List (AVal × AVal)} (h : Sp F0 G0 ps G) (hj : ps[j]? = some (MapL i es)) (es' : List (AVal × AVal)) : Sp F0 G0 (ps.set j (MapL i es')) (G.upd i (.map es')) := by
  refine h.call hj (MapL i es') fun F h k => ?_
  obtain ⟨h, rfl⟩ := h
  exact k _ _ ⟨Heap.upd_self _ _ _, rfl⟩ ⟨roLe_upd h (by simp), fun j x hj hn => by rw [Heap.upd_ne _ _ (fun e => hn (by simp [e]))]; exact hj, fun j hj => .inl hj⟩

/-- How many of each kind. -/
def cmap (ct cf : Nat) : List (AVal × AVal) := (if ct = 0 then [] else [(.bool true, .int .i64 (ct : Int))]) ++ (if cf = 0 then [] else [(.bool false, .int .i64 (cf : Int))])
/-- The last of each kind. -/
def lmap (lt lf : Int) : List (AVal × AVal) := [(.bool true, .int .i64 lt), (.bool false, .int .i64 lf)]

section
variable {T : Tbl} {t kt et : TypeId} {i ki ei : TI} (ht : T t = some i) (hd : i.desc = .map kt et) (hk : T kt = some ki) (hkd : ki.desc = .bool) (he : T et = some ei) (hez : ei.zero = .int .i64 0) {G : Heap} {id : AId}

include ht hd hk hkd he hez in
theorem cmap_look {ct cf : Nat} (hg : G id = some (.map (cmap ct cf))) (b : Bool) : vlookup T G t (.map id) (.bool b) false = some (.int .i64 ((bif b then ct else cf : Nat) : Int)) := by
  have hf : keyFits ki.desc (.bool b) = true := by rw [hkd]; rfl
  by_cases h1 : ct = 0 <;> by_cases h2 : cf = 0 <;> cases b <;> simp [vlookup, ht, hd, hk, he, hf, mapEs, hg, cmap, h1, h2, findA, sameA, hez]
include ht hd hk hkd in
theorem cmap_true {ct : Nat} {K : Heap → Prop} (hg : G id = some (.map (cmap ct 0))) (hK : K (G.upd id (.map (cmap (ct + 1) 0)))) : aMapUpdate T G t (.map id) (.bool true) (.int .i64 ((ct + 1 : Nat) : Int)) K := by
  have hf : keyFits ki.desc (.bool true) = true := by rw [hkd]; rfl
  by_cases h1 : ct = 0
  · subst h1
    simp only [aMapUpdate, ht, hd, hk, hg]
    exact ⟨hf, hK⟩
  · have e1 : cmap ct 0 = [(.bool true, .int .i64 (ct : Int))] := by simp [cmap, h1]
    have e2 : cmap (ct + 1) 0 = [(.bool true, .int .i64 ((ct + 1 : Nat) : Int))] := by simp [cmap]
    rw [e1] at hg
    rw [e2] at hK
    simp only [aMapUpdate, ht, hd, hk, hg]
    exact ⟨hf, hK⟩
include ht hd hk hkd in
theorem cmap_false {ct cf : Nat} {K : Heap → Prop} (hg : G id = some (.map (cmap ct cf))) (hK : K (G.upd id (.map (cmap ct (cf + 1))))) : aMapUpdate T G t (.map id) (.bool false) (.int .i64 ((cf + 1 : Nat) : Int)) K := by
  have hf : keyFits ki.desc (.bool false) = true := by rw [hkd]; rfl
  by_cases h1 : ct = 0 <;> by_cases h2 : cf = 0
  · subst h1 h2
    simp only [aMapUpdate, ht, hd, hk, hg]
    exact ⟨hf, hK⟩
  · have e1 : cmap ct cf = [(.bool false, .int .i64 (cf : Int))] := by simp [cmap, h1, h2]
    have e2 : cmap ct (cf + 1) = [(.bool false, .int .i64 ((cf + 1 : Nat) : Int))] := by simp [cmap, h1]
    rw [e1] at hg
    rw [e2] at hK
    simp only [aMapUpdate, ht, hd, hk, hg]
    exact ⟨hf, hK⟩
  · have e1 : cmap ct cf = [(.bool true, .int .i64 (ct : Int))] := by simp [cmap, h1, h2]
    have e2 : cmap ct (cf + 1) = [(.bool true, .int .i64 (ct : Int)), (.bool false, .int .i64 ((cf + 1 : Nat) : Int))] := by simp [cmap, h1]
    rw [e1] at hg
    rw [e2] at hK
    subst h2
    simp only [aMapUpdate, ht, hd, hk, hg]
    exact ⟨hf, hK⟩
  · have e1 : cmap ct cf = [(.bool true, .int .i64 (ct : Int)), (.bool false, .int .i64 (cf : Int))] := by simp [cmap, h1, h2]
    have e2 : cmap ct (cf + 1) = [(.bool true, .int .i64 (ct : Int)), (.bool false, .int .i64 ((cf + 1 : Nat) : Int))] := by simp [cmap, h1]
    rw [e1] at hg
    rw [e2] at hK
    simp only [aMapUpdate, ht, hd, hk, hg]
    exact ⟨hf, hK⟩
include ht hd hk in
theorem map_upd {es : List (AVal × AVal)} {k v : AVal} {r : Option (Nat × AVal)} {K : Heap → Prop} (hg : G id = some (.map es)) (hf : keyFits ki.desc k = true) (hr : findA k es 0 = some r)
    (hK : K (G.upd id (.map (match r with | some (j, _) => es.set j (k, v) | none => es ++ [(k, v)])))) : aMapUpdate T G t (.map id) k v K := by
  simp only [aMapUpdate, ht, hd, hk, hg, hr]
  refine ⟨hf, ?_⟩
  cases r with
  | none => exact hK
  | some x => exact hK
include ht hd hk hkd he in
theorem lmap_look {lt lf : Int} (hg : G id = some (.map (lmap lt lf))) (b : Bool) : vlookup T G t (.map id) (.bool b) false = some (.int .i64 (bif b then lt else lf)) := by
  have hf : keyFits ki.desc (.bool b) = true := by rw [hkd]; rfl
  cases b <;> simp [vlookup, ht, hd, hk, he, hf, mapEs, hg, lmap, findA, sameA]
include ht hd hk hkd in
theorem lmap_upd {lt lf n : Int} {b : Bool} {K : Heap → Prop} (hg : G id = some (.map (lmap lt lf))) (hK : K (G.upd id (.map (lmap (bif b then n else lt) (bif b then lf else n))))) : aMapUpdate T G t (.map id) (.bool b) (.int .i64 n) K := by
  have hf : keyFits ki.desc (.bool b) = true := by rw [hkd]; rfl
  cases b
  · simp only [aMapUpdate, ht, hd, hk, hg]
    exact ⟨hf, hK⟩
  · simp only [aMapUpdate, ht, hd, hk, hg]
    exact ⟨hf, hK⟩
end

end Go.Esc
namespace Go.Esc.M
open Go Go.Esc

structure PenM where
  ours : Bool
  id : Int
  amount : Int
  hash : List UInt8
  deriving DecidableEq

def PenM.av (p : PenM) : AVal := .agg [.bool p.ours, .int .i64 p.id, .int .i64 p.amount, .agg (p.hash.map u8v)]
structure PenM.ok (p : PenM) : Prop where
  id : I64 p.id
  amount : I64 p.amount
  hash : p.hash.length = 32

theorem PenM.sz {p : PenM} (h : p.ok) : sz p.av = 35 := by
  have h1 : szs (p.hash.map u8v) = 32 := by rw [szs_uni (n := 1) (uni_u8 p.hash)]; simp [h.hash]
  simp [PenM.av, Esc.sz, szs, h1]
theorem PenM.fits {p : PenM} (h : p.ok) : vfits ti_api_Pending p.av = true := by
  have h1 := PenM.sz h
  have h2 : p.av.isAgg = true := rfl
  simp [vfits, h1, h2, ti_api_Pending, ADesc.isAgg]
theorem PenM.okv (p : PenM) : okv p.av = true := by simp [PenM.av, Esc.okv, okvs, okvs_u8]
theorem PenM.fld {G : Heap} {i : AId} {p : PenM} (h : p.ok) (hg : G i = some (.own p.av)) :
    vload T G t_bool (.ptr i [0] 0) = some (.bool p.ours) ∧ vload T G t_int64 (.ptr i [1] 1) = some (.int .i64 p.id) ∧ vload T G t_int64 (.ptr i [2] 2) = some (.int .i64 p.amount) ∧ vload T G t_api_Hash (.ptr i [3] 3) = some (.agg (p.hash.map u8v)) := by
  have h1 : szs (p.hash.map u8v) = 32 := by rw [szs_uni (n := 1) (uni_u8 p.hash)]; simp [h.hash]
  refine ⟨vload_fld (c := .bool p.ours) hg rfl rfl rfl T_bool rfl, vload_fld (c := .int .i64 p.id) hg rfl rfl rfl T_int64 rfl, vload_fld (c := .int .i64 p.amount) hg rfl rfl rfl T_int64 rfl, vload_fld (c := .agg (p.hash.map u8v)) hg rfl rfl rfl T_api_Hash ?_⟩
  simp [vfits, Esc.sz, h1, ti_api_Hash, AVal.isAgg, ADesc.isAgg]

/-- A ledger's value: its list stands in memory. -/
def ledV (o p : Int) (v : AVal) : AVal := .agg [.int .i64 o, .int .i64 p, v]

def maxAmount : Int := 1152921504606846976

def scanP : Int → Int → Nat → Nat → List PenM → Option (Nat × Nat)
  | _, _, ct, cf, [] => some (ct, cf)
  | lt, lf, ct, cf, p :: l =>
    if p.amount < 1 ∨ maxAmount < p.amount ∨ p.id ≤ (bif p.ours then lt else lf) ∨ (p.ours = true ∧ 0 < cf) then none
    else bif p.ours then scanP p.id lf (ct + 1) cf l else scanP lt p.id ct (cf + 1) l
def few (r : Option (Nat × Nat)) : Bool :=
  match r with
  | none => false
  | some (a, b) => decide (a ≤ 483) && decide (b ≤ 483)
def soundP (o q : Int) (l : List PenM) : Bool := decide (0 ≤ o) && decide (o ≤ maxAmount) && decide (0 ≤ q) && decide (q ≤ maxAmount) && few (scanP (-1) (-1) 0 0 l)

section
variable {G : Heap} {Q : AVal → Heap → Prop}

theorem led_fld {i : AId} {o q : Int} {v : AVal} (hv : sz v = 1) (hva : v.isAgg = false) (hg : G i = some (.own (ledV o q v))) :
    vload T G t_int64 (.ptr i [0] 0) = some (.int .i64 o) ∧ vload T G t_int64 (.ptr i [1] 1) = some (.int .i64 q) ∧ vload T G t_sl_api_Pending (.ptr i [2] 2) = some v ∧ vload T G t_api_Ledger (.ptr i [] 0) = some (ledV o q v) := by
  refine ⟨vload_fld (c := .int .i64 o) hg rfl rfl rfl T_int64 rfl, vload_fld (c := .int .i64 q) hg rfl rfl rfl T_int64 rfl, vload_fld (c := v) hg rfl rfl rfl T_sl_api_Pending ?_, whole_load T_api_Ledger hg ?_⟩
  · simp [vfits, hv, hva, ti_sl_api_Pending, ADesc.isAgg]
  · simp [vfits, ledV, sz, szs, hv, ti_api_Ledger, AVal.isAgg, ADesc.isAgg]

theorem sl_leaf {n : Nat} {v : AVal} {vs : List AVal} (h : IsSl n G v vs) : sz v = 1 ∧ v.isAgg = false ∧ okv v = true := by
  rcases h with ⟨_, _, _, _, _, _, rfl, _⟩ | ⟨rfl, _⟩ <;> exact ⟨rfl, rfl, rfl⟩

theorem pen_at {v : AVal} {l : List PenM} {j : Nat} {p : PenM} (h : IsSl 35 G v (l.map PenM.av)) (hj : l[j]? = some p) : ∃ a, viaddr T t_sl_api_Pending v (.int .i64 (j : Int)) = some a ∧ vload T G t_api_Pending a = some p.av :=
  h.at_ (k := .i64) (i := ti_sl_api_Pending) (ie := ti_api_Pending) (T := T) (t := t_sl_api_Pending) (e := t_api_Pending) T_sl_api_Pending rfl T_api_Pending (by rw [List.getElem?_map, hj]; rfl) rfl

set_option maxHeartbeats 1000000 in
theorem commit_sound.use {o q : Int} {v : AVal} {l : List PenM} (hl : IsSl 35 G v (l.map PenM.av)) (hok : ∀ p ∈ l, p.ok) (hlen : l.length ≤ 9223372036854775807) (hQ : ∀ G', Ch [] G [] G' → Q (.bool (soundP o q l)) G') :
    ACalls P commit_sound.n [ledV o q v] G Q := by
  obtain ⟨hv1, hv2, _⟩ := sl_leaf hl
  refine commit_sound.sound ?_
  unfold commit_sound.S
  obtain ⟨mA, hmA⟩ : ∃ m, m = (1152921504606846976 : Int) := ⟨_, rfl⟩
  rw [← hmA]
  have hmax : maxAmount = mA := by rw [hmA]; rfl
  intro i1 f1
  have s1 := (Sp.nil G).row f1 (ledV o q v)
  obtain ⟨f0, f1', f2, _⟩ := led_fld hv1 hv2 (RowL.own (i := 0) s1 rfl)
  revert s1 f0 f1' f2
  generalize G.upd i1 (.own (ledV o q v)) = G2
  intro s1 f0 f1' f2 J62
  have hbad : soundP o q l = false → J62 (.bool true) G2 := by
    intro h
    simp -zeta only [J62, brB_true]
    rw [← h]
    exact hQ _ s1.ch
  have hgood : soundP o q l = few (scanP (-1) (-1) 0 0 l) → J62 (.bool false) G2 := by
    intro he
    rw [he] at hQ
    simp -zeta only [J62, brB_false]
    intro i13 f13
    have s14 := s1.new (p := MapL i13 (cmap 0 0)) ⟨Heap.upd_self _ _ _, rfl⟩ (Ch.new f13)
    intro i15 f15
    have s16 := s14.new (p := MapL i15 []) ⟨Heap.upd_self _ _ _, rfl⟩ (Ch.new f15)
    refine map_upd (T := T) (i := ti_map_bool_int64) T_map_bool_int64 rfl T_bool (r := none) (MapL.own (i := 0) s16 rfl) rfl rfl ?_
    have s17 := Sp.setMap' s16 (j := 0) rfl [(.bool true, .int .i64 (-1))]
    refine map_upd (T := T) (i := ti_map_bool_int64) T_map_bool_int64 rfl T_bool (r := none) (MapL.own (i := 0) s17 rfl) rfl rfl ?_
    have s18 : Sp [] G [MapL i15 (lmap (-1) (-1)), MapL i13 (cmap 0 0), RowL i1 (ledV o q v)] _ := Sp.setMap' s17 (j := 0) rfl (lmap (-1) (-1))
    have hl18 := hl.ch' s18.ch
    refine wv_of (led_fld hv1 hv2 (RowL.own (i := 2) s18 rfl)).2.2.1 ?_
    refine wv_of (hl18.len (i := ti_sl_api_Pending) T_sl_api_Pending rfl) ?_
    rw [List.length_map]
    intro R21 hR21
    have look1 : ∀ {G' : Heap} {ct cf : Nat}, G' i13 = some (.map (cmap ct cf)) → ∀ b, vlookup T G' t_map_bool_int (.map i13) (.bool b) false = some (.int .i64 ((bif b then ct else cf : Nat) : Int)) := fun hg b => cmap_look (T := T) (i := ti_map_bool_int) T_map_bool_int rfl T_bool rfl T_int rfl hg b
    have look2 : ∀ {G' : Heap} {lt lf : Int}, G' i15 = some (.map (lmap lt lf)) → ∀ b, vlookup T G' t_map_bool_int64 (.map i15) (.bool b) false = some (.int .i64 (bif b then lt else lf)) := fun hg b => lmap_look (T := T) (i := ti_map_bool_int64) T_map_bool_int64 rfl T_bool rfl T_int64 hg b
    have loop : ∀ (n j : Nat) (lt lf : Int) (ct cf : Nat) (G' : Heap), l.length - j = n → j ≤ l.length → ct ≤ j → cf ≤ j → (∀ b, few (scanP lt lf ct cf (l.drop j)) = b → few (scanP (-1) (-1) 0 0 l) = b) →
        Sp [] G [MapL i15 (lmap lt lf), MapL i13 (cmap ct cf), RowL i1 (ledV o q v)] G' → R21 [.map i13, .map i15, v, .int .i64 (l.length : Nat), .int .i64 (j : Int)] G' := by
      intro n
      induction n with
      | zero =>
        intro j lt lf ct cf G' hn hj hct hcf hb hs
        have : j = l.length := by omega
        subst this
        have g13 := MapL.own (i := 1) hs rfl
        rw [List.drop_length] at hb
        have hb := hb _ rfl
        refine hR21 _ _ _ _ _ _ ?_
        rw [vbin_lss, wv_some, brB_dec]
        refine ⟨fun h => absurd h (by omega), fun _ => ?_⟩
        rw [look1 g13, wv_some, vbin_leq, wv_some, look1 g13, brB_dec]
        refine ⟨fun h1 => ?_, fun h1 => ?_⟩
        · rw [wv_some, vbin_leq, wv_some]
          have := hQ _ hs.ch
          rw [hb] at this
          have e : few (scanP lt lf ct cf []) = decide ((((bif false then ct else cf : Nat)) : Int) ≤ 483) := by
            have h1 : ct ≤ 483 := by have : ((ct : Nat) : Int) ≤ 483 := h1; omega
            simp only [scanP, few, cond_false, decide_eq_true h1, Bool.true_and]
            rw [decide_eq_decide]
            omega
          rw [← e]
          exact this
        · have := hQ _ hs.ch
          rw [hb] at this
          have e : few (scanP lt lf ct cf []) = false := by
            have h1 : ¬ ct ≤ 483 := fun h => h1 (by show ((ct : Nat) : Int) ≤ 483; omega)
            simp only [scanP, few, decide_eq_false h1, Bool.false_and]
          rw [e] at this
          exact this
      | succ n ih =>
        intro j lt lf ct cf G' hn hj hct hcf hb hs
        have hjl : j < l.length := by omega
        obtain ⟨p, hp⟩ : ∃ p, l[j]? = some p := ⟨_, List.getElem?_eq_getElem hjl⟩
        have hpo := hok p (List.mem_of_getElem? hp)
        obtain ⟨a, ha, hla⟩ := pen_at (hl.ch' hs.ch) hp
        have hdr : l.drop j = p :: l.drop (j + 1) := by
          obtain ⟨hx, rfl⟩ := List.getElem?_eq_some_iff.1 hp
          exact List.drop_eq_getElem_cons hx
        rw [hdr, scanP] at hb
        refine hR21 _ _ _ _ _ _ ?_
        rw [vbin_lss, wv_some, brB_dec]
        refine ⟨fun _ => ?_, fun h => absurd (by omega) h⟩
        rw [ha, wv_some, hla, wv_some]
        refine newVal hs T_api_Pending (PenM.fits hpo) (by rw [PenM.sz hpo]; rfl) (PenM.okv p) fun i31 G33 s33 => ?_
        have g15 := MapL.own (i := 1) s33 rfl
        have g13 := MapL.own (i := 2) s33 rfl
        obtain ⟨k0, k1, k2, _⟩ := PenM.fld hpo (RowL.own (i := 0) s33 rfl)
        intro J54
        have jbad : few none = few (scanP (-1) (-1) 0 0 l) → J54 (.bool true) G33 := by
          intro h
          simp -zeta only [J54, brB_true]
          have := hQ _ s33.ch
          rw [← h] at this
          exact this
        have jok : (∀ b, few (bif p.ours then scanP p.id lf (ct + 1) cf (l.drop (j + 1)) else scanP lt p.id ct (cf + 1) (l.drop (j + 1))) = b → few (scanP (-1) (-1) 0 0 l) = b) → (p.ours = true → cf = 0) → J54 (.bool false) G33 := by
          intro hnext hcf0
          simp -zeta only [J54, brB_false]
          rw [k0, wv_some, k1, wv_some]
          refine lmap_upd (T := T) (i := ti_map_bool_int64) T_map_bool_int64 rfl T_bool rfl g15 ?_
          have s49 := Sp.setMap' s33 (j := 1) rfl (lmap (bif p.ours then p.id else lt) (bif p.ours then lf else p.id))
          obtain ⟨k0', _⟩ := PenM.fld hpo (RowL.own (i := 0) s49 rfl)
          have g13' := MapL.own (i := 2) s49 rfl
          refine wv_of k0' ?_
          refine wv_of (look1 g13' p.ours) ?_
          rw [vbin_add, wv_some]
          cases hpo2 : p.ours with
          | true =>
            have h0 := hcf0 hpo2
            subst h0
            rw [hpo2] at hnext s49 g13'
            simp only [cond_true] at hnext s49 ⊢
            rw [i64_in (by omega) (by omega), show ((ct : Int) + 1) = ((ct + 1 : Nat) : Int) by omega]
            refine cmap_true (T := T) (i := ti_map_bool_int) T_map_bool_int rfl T_bool rfl g13' ?_
            rw [vbin_add, wv_some, i64_in (by omega) (by omega)]
            exact ih (j + 1) p.id lf (ct + 1) 0 _ (by omega) (by omega) (by omega) (by omega) hnext ((Sp.setMap' s49 (j := 2) rfl (cmap (ct + 1) 0)).erase 0)
          | false =>
            rw [hpo2] at hnext s49 g13'
            simp only [cond_false] at hnext s49 ⊢
            rw [i64_in (by omega) (by omega), show ((cf : Int) + 1) = ((cf + 1 : Nat) : Int) by omega]
            refine cmap_false (T := T) (i := ti_map_bool_int) T_map_bool_int rfl T_bool rfl g13' ?_
            rw [vbin_add, wv_some, i64_in (by omega) (by omega)]
            exact ih (j + 1) lt p.id ct (cf + 1) _ (by omega) (by omega) (by omega) (by omega) hnext ((Sp.setMap' s49 (j := 2) rfl (cmap ct (cf + 1))).erase 0)
        rw [k2, wv_some, vbin_lss, wv_some, brB_dec]
        refine ⟨fun h1 => jbad (hb _ (by rw [if_pos (.inl h1)])).symm, fun h1 => ?_⟩
        rw [wv_some, vbin_gtr, wv_some, brB_dec]
        refine ⟨fun h2 => jbad (hb _ (by rw [if_pos (.inr (.inl (by rw [hmax]; exact h2)))])).symm, fun h2 => ?_⟩
        rw [k1, wv_some, k0, wv_some, look2 g15, wv_some, vbin_leq, wv_some, brB_dec]
        refine ⟨fun h3 => jbad (hb _ (by rw [if_pos (.inr (.inr (.inl h3)))])).symm, fun h3 => ?_⟩
        rw [wv_some]
        rw [brB_bool]
        refine ⟨fun h4 => ?_, fun h4 => ?_⟩
        · rw [look1 g13, wv_some, vbin_gtr, wv_some]
          by_cases h5 : 0 < cf
          · have e5 : decide ((0 : Int) < ((bif false then ct else cf : Nat) : Int)) = true := by
              rw [decide_eq_true_eq]
              show (0 : Int) < (cf : Int)
              omega
            rw [e5]
            exact jbad (hb _ (by rw [if_pos (.inr (.inr (.inr ⟨h4, h5⟩)))])).symm
          · have e5 : decide ((0 : Int) < ((bif false then ct else cf : Nat) : Int)) = false := by
              rw [decide_eq_false_iff_not]
              show ¬ (0 : Int) < (cf : Int)
              omega
            rw [e5]
            refine jok (fun b h => hb b ?_) fun _ => by omega
            rw [if_neg (fun h => by rcases h with h | h | h | h; exact h1 h; exact h2 (by rw [← hmax]; exact h); exact h3 h; exact h5 h.2)]
            exact h
        · refine jok (fun b h => hb b ?_) fun h => by rw [h4] at h; cases h
          rw [if_neg (fun h => by rcases h with h | h | h | h; exact h1 h; exact h2 (by rw [← hmax]; exact h); exact h3 h; rw [h4] at h; cases h.1)]
          exact h
    exact loop _ 0 (-1) (-1) 0 0 _ rfl (by omega) (by omega) (by omega) (fun b h => h) s18
  rw [f0, wv_some, vbin_lss, wv_some, brB_dec]
  refine ⟨fun h => hbad ?_, fun h0 => ?_⟩
  · simp only [soundP, decide_eq_false (show ¬ 0 ≤ o by omega), Bool.false_and]
  rw [wv_some, vbin_gtr, wv_some, brB_dec]
  refine ⟨fun h => hbad ?_, fun h1 => ?_⟩
  · simp only [soundP, decide_eq_false (show ¬ o ≤ maxAmount by rw [hmax]; omega), Bool.false_and, Bool.and_false]
  rw [f1', wv_some, vbin_lss, wv_some, brB_dec]
  refine ⟨fun h => hbad ?_, fun h2 => ?_⟩
  · simp only [soundP, decide_eq_false (show ¬ 0 ≤ q by omega), Bool.false_and, Bool.and_false]
  rw [wv_some, vbin_gtr, wv_some]
  by_cases h3 : mA < q
  · rw [decide_eq_true h3]
    refine hbad ?_
    simp only [soundP, decide_eq_false (show ¬ q ≤ maxAmount by rw [hmax]; omega), Bool.false_and, Bool.and_false]
  · rw [decide_eq_false h3]
    refine hgood ?_
    simp only [soundP, decide_eq_true (show 0 ≤ o by omega), decide_eq_true (show 0 ≤ q by omega), decide_eq_true (show o ≤ maxAmount by rw [hmax]; omega), decide_eq_true (show q ≤ maxAmount by rw [hmax]; omega), Bool.true_and]

end
end Go.Esc.M
