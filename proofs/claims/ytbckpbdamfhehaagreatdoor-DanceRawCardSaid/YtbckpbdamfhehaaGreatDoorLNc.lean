import Derived.Test.YtbckpbdamfhehaaGreatDoorLRS
import Derived.Test.YtbckpbdamfhehaaGreatDoorLUf
import Derived.Test.YtbckpbdamfhehaaGreatDoorLMc
import Derived.Test.YtbckpbdamfhehaaGreatDoorLSe
import Derived.Test.YtbckpbdamfhehaaGreatDoorLSh
import Derived.Test.YtbckpbdamfhehaaGreatDoorLFa
import Derived.Test.YtbckpbdamfhehaaGreatDoorLDg
/- Own work. Chapter 15: states and records: what the calls answer, first part. -/
set_option linter.unusedSimpArgs false
set_option linter.unusedVariables false
set_option maxRecDepth 20000
namespace Go.Esc.M
open Go Go.Esc

/-- A state whole: its numbers and its lists. -/
structure StF where
  s : StM
  o : List UpdM
  p : List UpdM
  h : List SlotM
structure StIn (G : Heap) (f : StF) (vo vp vh : AVal) : Prop where
  ok : f.s.ok
  o : CapSl 36 G vo (f.o.map UpdM.av)
  p : CapSl 36 G vp (f.p.map UpdM.av)
  h : CapSl 34 G vh (f.h.map SlotM.av)
  oko : ∀ u ∈ f.o, u.ok
  okp : ∀ u ∈ f.p, u.ok
  okh : ∀ x ∈ f.h, x.ok
  lo : f.o.length ≤ 1048576
  lp : f.p.length ≤ 1048576
  lh : f.h.length * 48 ≤ 140737488351232
theorem capLeaf {n : Nat} {G : Heap} {v : AVal} {vs : List AVal} (h : CapSl n G v vs) : Leaf v := by
  rcases h with ⟨_, _, _, _, _, _, rfl, _⟩ | ⟨rfl, _⟩ <;> exact ⟨rfl, rfl, rfl⟩
theorem StIn.lv {G : Heap} {f : StF} {vo vp vh : AVal} (h : StIn G f vo vp vh) : Leaf vo ∧ Leaf vp ∧ Leaf vh := ⟨capLeaf h.o, capLeaf h.p, capLeaf h.h⟩
theorem StIn.mv {G G' : Heap} {E : List AId} {f : StF} {vo vp vh : AVal} (h : StIn G f vo vp vh) (hc : Ch [] G E G') : StIn G' f vo vp vh :=
  ⟨h.ok, h.o.mv hc, h.p.mv hc, h.h.mv hc, h.oko, h.okp, h.okh, h.lo, h.lp, h.lh⟩

def fixA (s : StM) : Int := if s.heldA < s.atA then s.heldA else s.atA
def fixB (s : StM) : Int := if s.heldB < s.atB then s.heldB else s.atB
def deadS (s : StM) : Bool := !decide (s.failed = 0) || !decide (s.closed = -1)
def fullS (f : StF) : Bool := decide (2048 ≤ f.o.length) || decide (512 ≤ IntKind.i64.wrap ((f.o.length : Int) - f.s.heldA))
def spendO (f : StF) : Int := spendS f.s.bo f.o f.p (fixA f.s) (fixB f.s)
def spendP (f : StF) : Int := spendS f.s.bp f.p f.o (fixB f.s) (fixA f.s)

def RcM.zero : RcM := ⟨0, UpdM.zero, 0, 0, 0, h0, h0, h0, 0⟩
theorem RcM.zero_ok : RcM.zero.ok := ⟨i64_0, UpdM.zero_ok, i64_0, i64_0, i64_0, rfl, rfl, rfl, i64_0⟩
def rcZ : List AVal := RcM.zero.cs .nilSlice
theorem zRec : z_api_Record = RcM.zero.av .nilSlice := rfl
theorem build_rc {parts : List (Nat × AVal)} {r : RcM} {v : AVal} (hs : ∀ p ∈ parts, rcZ[p.1]?.map Esc.sz = some (Esc.sz p.2)) (he : setParts rcZ parts = r.cs v) : vbuild T t_api_Record parts = some (r.av v) := by
  refine (build_struct (zs := rcZ) T_api_Record rfl rfl rfl (plOk_of rfl) hs).trans ?_
  rw [he]; rfl
theorem build_rc0 : vbuild T t_api_Record [] = some (RcM.zero.av .nilSlice) := rfl

def recOurs (u : UpdM) : RcM := { RcM.zero with kind := 1, upd := u }
theorem i64_n (n : Int) (h0 : -9223372036854775808 ≤ n) (h1 : n ≤ 9223372036854775807) : I64 n := ⟨h0, h1⟩
theorem recOurs_ok {u : UpdM} (h : u.ok) : (recOurs u).ok := ⟨i64_n 1 (by decide) (by decide), h, i64_0, i64_0, i64_0, rfl, rfl, rfl, i64_0⟩

section
variable {F0 : List AId} {G0 G : Heap} {ps : List LP} {Q : AVal → Heap → Prop}

theorem build_ours {u : UpdM} (h : u.ok) : vbuild T t_api_Record [(0, .int .i64 1), (1, u.av)] = some ((recOurs u).av .nilSlice) := by
  refine build_rc (fun p hp => ?_) rfl
  simp only [List.mem_cons, List.not_mem_nil, or_false] at hp
  rcases hp with rfl | rfl
  · rfl
  · show some (Esc.sz UpdM.zero.av) = some (Esc.sz u.av)
    rw [UpdM.sz h, UpdM.sz UpdM.zero_ok]

theorem rc_no {j : Nat} {i : AId} {e : Int} {v : AVal} {r : RcM} (s : Sp F0 G ps G0) (hj : ps[j]? = some (RowL i (r.av v))) (hr : r.ok) (hv : Leaf v) (hQ : ∀ G', Sp F0 G (ps.set j (RowL i (RcM.zero.av .nilSlice))) G' → Q (.tuple [RcM.zero.av .nilSlice, .int .i64 e]) G') :
    wv (vbuild T t_api_Record []) fun v17 => wg (vstore T G0 t_api_Record (.ptr i [] 0) v17) fun G18 => wv (vload T G18 t_api_Record (.ptr i [] 0)) fun v19 => Q (.tuple [v19, .int .i64 e]) G18 := by
  refine wv_of build_rc0 ?_
  refine Rc.st s hj hr hv RcM.zero_ok Leaf.nil fun G18 s18 => ?_
  refine wv_of (Rc.ld (RowL.own (i := j) s18 (by rw [List.getElem?_set_self (List.getElem?_eq_some_iff.1 hj).1])) RcM.zero_ok Leaf.nil) ?_
  exact hQ G18 s18

theorem dance_Fixed.use {f : StF} {vo vp vh : AVal} (h : StIn G f vo vp vh) (hQ : ∀ G', Ch [] G [] G' → Q (pairW (fixA f.s) (fixB f.s)) G') : ACalls P dance_Fixed.n [f.s.av vo vp vh] G Q := by
  have ho := h.ok
  have hl := h.lv
  refine dance_Fixed.sound ?_
  unfold dance_Fixed.S
  intro i1 f1
  have s1 := (Sp.nil G).row f1 (f.s.av vo vp vh)
  intro i3 f3
  have zC : z_api_Counts = pairW 0 0 := rfl
  rw [zC]
  have s3 := s1.row f3 (pairW 0 0)
  revert s3
  generalize Heap.upd _ i3 _ = G4
  intro s3
  have hg := RowL.own (i := 1) s3 rfl
  refine wv_of (St.ld_atA hg ho hl) ?_
  refine wv_of (St.ld_heldA hg ho hl) ?_
  refine wv_of (v := .int .i64 (fixA f.s)) rfl ?_
  refine wv_of (St.ld_atB hg ho hl) ?_
  refine wv_of (St.ld_heldB hg ho hl) ?_
  refine wv_of (v := .int .i64 (fixB f.s)) rfl ?_
  refine wv_of (v := pairW (fixA f.s) (fixB f.s)) rfl ?_
  refine wg_of (whole_store (c := pairW (fixA f.s) (fixB f.s)) T_api_Counts (RowL.own (i := 0) s3 rfl) rfl rfl rfl) ?_
  have s4 := Sp.setRow (j := 0) s3 rfl (pairW (fixA f.s) (fixB f.s))
  refine wv_of (whole_load T_api_Counts (RowL.own (i := 0) s4 rfl) rfl) ?_
  exact hQ _ s4.ch

theorem dance_turned.use {a b : Int} (hQ : ∀ G', Ch [] G [] G' → Q (pairW b a) G') : ACalls P dance_turned.n [pairW a b] G Q := by
  refine dance_turned.sound ?_
  unfold dance_turned.S
  intro i1 f1
  have s1 := (Sp.nil G).row f1 (pairW a b)
  intro i3 f3
  have zC : z_api_Counts = pairW 0 0 := rfl
  rw [zC]
  have s3 := s1.row f3 (pairW 0 0)
  revert s3
  generalize Heap.upd _ i3 _ = G4
  intro s3
  obtain ⟨l1, l2, _⟩ := count_load (RowL.own (i := 1) s3 rfl)
  refine wv_of l2 ?_
  refine wv_of l1 ?_
  refine wv_of (v := pairW b a) rfl ?_
  refine wg_of (whole_store (c := pairW b a) T_api_Counts (RowL.own (i := 0) s3 rfl) rfl rfl rfl) ?_
  have s4 := Sp.setRow (j := 0) s3 rfl (pairW b a)
  refine wv_of (whole_load T_api_Counts (RowL.own (i := 0) s4 rfl) rfl) ?_
  exact hQ _ s4.ch

theorem dance_Spendable.use {f : StF} {vo vp vh : AVal} (h : StIn G f vo vp vh) (hQ : ∀ G', Ch [] G [] G' → Q (.int .i64 (spendO f)) G') : ACalls P dance_Spendable.n [f.s.av vo vp vh] G Q := by
  have ho := h.ok
  have hl := h.lv
  refine dance_Spendable.sound ?_
  unfold dance_Spendable.S
  intro i1 f1
  have s1 := (Sp.nil G).row f1 (f.s.av vo vp vh)
  have hg := RowL.own (i := 0) s1 rfl
  refine wv_of (St.ld_bo hg ho hl) ?_
  refine wv_of (St.ld_ours hg ho hl) ?_
  refine wv_of (St.ld_peers hg ho hl) ?_
  refine wv_of (St.ld hg ho hl) ?_
  refine dance_Fixed.use (h.mv s1.ch) fun G8 c8 => ?_
  have s8 := s1.tmp c8
  have hg := RowL.own (i := 0) s8 rfl
  refine ⟨⟨St.ld_peers hg ho hl, St.ld_ours hg ho hl, St.ld_bo hg ho hl, trivial⟩, ?_⟩
  refine ledger_Spendable.use (h.o.mv s8.ch) (h.p.mv s8.ch) h.oko h.okp h.lo h.lp fun G10 c10 => ?_
  exact hQ _ (s8.tmp c10).ch

theorem dance_PeerSpendable.use {f : StF} {vo vp vh : AVal} (h : StIn G f vo vp vh) (hQ : ∀ G', Ch [] G [] G' → Q (.int .i64 (spendP f)) G') : ACalls P dance_PeerSpendable.n [f.s.av vo vp vh] G Q := by
  have ho := h.ok
  have hl := h.lv
  refine dance_PeerSpendable.sound ?_
  unfold dance_PeerSpendable.S
  intro i1 f1
  have s1 := (Sp.nil G).row f1 (f.s.av vo vp vh)
  have hg := RowL.own (i := 0) s1 rfl
  refine wv_of (St.ld_bp hg ho hl) ?_
  refine wv_of (St.ld_peers hg ho hl) ?_
  refine wv_of (St.ld_ours hg ho hl) ?_
  refine wv_of (St.ld hg ho hl) ?_
  refine dance_Fixed.use (h.mv s1.ch) fun G8 c8 => ?_
  have s8 := s1.tmp c8
  have hg := RowL.own (i := 0) s8 rfl
  refine ⟨⟨St.ld_ours hg ho hl, St.ld_peers hg ho hl, St.ld_bp hg ho hl, trivial⟩, ?_⟩
  refine dance_turned.use fun G10 c10 => ?_
  have s10 := s8.tmp c10
  have hg := RowL.own (i := 0) s10 rfl
  refine ⟨⟨St.ld_ours hg ho hl, St.ld_peers hg ho hl, St.ld_bp hg ho hl, trivial⟩, ?_⟩
  refine ledger_Spendable.use (h.p.mv s10.ch) (h.o.mv s10.ch) h.okp h.oko h.lp h.lo fun G12 c12 => ?_
  exact hQ _ (s10.tmp c12).ch

theorem dance_dead.use {f : StF} {vo vp vh : AVal} (h : StIn G f vo vp vh) (hQ : ∀ G', Ch [] G [] G' → Q (.bool (deadS f.s)) G') : ACalls P dance_dead.n [f.s.av vo vp vh] G Q := by
  have ho := h.ok
  have hl := h.lv
  refine dance_dead.sound ?_
  unfold dance_dead.S
  intro i1 f1
  have s1 := (Sp.nil G).row f1 (f.s.av vo vp vh)
  have hg := RowL.own (i := 0) s1 rfl
  have hQ := hQ _ s1.ch
  unfold deadS at hQ
  refine wv_of (St.ld_failed hg ho hl) ?_
  rw [vbin_neq, wv_some]
  by_cases h1 : f.s.failed = 0
  · rw [decide_eq_true h1, Bool.not_true, Bool.false_or] at hQ
    rw [decide_eq_true h1, Bool.not_true, brB_false]
    refine wv_of (St.ld_closed hg ho hl) ?_
    rw [vbin_neq, wv_some]
    exact hQ
  · rw [decide_eq_false h1, Bool.not_false, Bool.true_or] at hQ
    rw [decide_eq_false h1, Bool.not_false, brB_true]
    exact hQ

theorem dance_full.use {f : StF} {vo vp vh : AVal} (h : StIn G f vo vp vh) (hQ : ∀ G', Ch [] G [] G' → Q (.bool (fullS f)) G') : ACalls P dance_full.n [f.s.av vo vp vh] G Q := by
  have ho := h.ok
  have hl := h.lv
  refine dance_full.sound ?_
  unfold dance_full.S
  intro i1 f1
  have s1 := (Sp.nil G).row f1 (f.s.av vo vp vh)
  have hg := RowL.own (i := 0) s1 rfl
  have hQ := hQ _ s1.ch
  unfold fullS at hQ
  refine wv_of (St.ld_ours hg ho hl) ?_
  refine wv_of (upd_len (h.o.isSl.ch' s1.ch)) ?_
  rw [vbin_geq, wv_some]
  by_cases h1 : 2048 ≤ f.o.length
  · rw [decide_eq_true h1, Bool.true_or] at hQ
    rw [decide_eq_true (by omega), brB_true]
    exact hQ
  · rw [decide_eq_false h1, Bool.false_or] at hQ
    rw [decide_eq_false (by omega), brB_false]
    refine wv_of (St.ld_ours hg ho hl) ?_
    refine wv_of (upd_len (h.o.isSl.ch' s1.ch)) ?_
    refine wv_of (St.ld_heldA hg ho hl) ?_
    rw [vbin_sub, wv_some, vbin_geq, wv_some]
    exact hQ

theorem dance_mine.use {u : UpdM} (h : u.ok) (hQ : ∀ G', Ch [] G [] G' → Q ((recOurs u).av .nilSlice) G') : ACalls P dance_mine.n [u.av] G Q := by
  refine dance_mine.sound ?_
  unfold dance_mine.S
  rw [zRec]
  intro i1 f1
  have s1 := (Sp.nil G).row f1 u.av
  intro i3 f3
  have s3 := s1.row f3 (RcM.zero.av .nilSlice)
  refine wv_of (upd_load (i := 1) s3 rfl h).2.2.2.2.2 ?_
  refine wv_of (build_ours h) ?_
  refine Rc.st (i := 0) s3 rfl RcM.zero_ok Leaf.nil (recOurs_ok h) Leaf.nil fun G7 s7 => ?_
  refine wv_of (Rc.ld (RowL.own (i := 0) s7 rfl) (recOurs_ok h) Leaf.nil) ?_
  exact hQ _ s7.ch

theorem dance_sum.use {x : List UInt8} (hx : x.length = 32) (hQ : ∀ G', Ch [] G [] G' → Q (.agg ((sha x).map u8v)) G') : ACalls P dance_sum.n [.agg (x.map u8v)] G Q := by
  refine dance_sum.sound ?_
  unfold dance_sum.S
  rw [z_hash]
  intro i1 f1
  have s1 := (Sp.nil G).row f1 (.agg (x.map u8v))
  intro i3 f3
  have s3 := s1.row f3 (.agg ((List.replicate 32 (0 : UInt8)).map u8v))
  have hsl : vslice T t_api_Hash (.ptr i1 [] 0) none none none = some (.slice i1 [] 0 0 32 32) := by simp [vslice, T_api_Hash, ti_api_Hash, T_uint8, sbounds, sbound]
  refine wv_of hsl ?_
  have hxs : IsSl 1 _ (.slice i1 [] 0 0 32 32) (x.map u8v) := row_is (RowL.own (i := 1) s3 rfl) hx
  refine wv_of (conv_bytes (si := ti_sl_uint8) (ie := ti_uint8) (di := ti_string) T_sl_uint8 rfl T_uint8 rfl T_string rfl hxs) ?_
  refine one_str s3 fun v7 G8 s8 => ?_
  refine hash_Sum.use (xs := [x]) (Own.capSl (OwnL.own (i := 0) s8 rfl)) (by simp) (by simp; omega) fun G10 c10 => ?_
  have s10 := s8.tmp c10
  have e1 : [x].flatten = x := by simp
  rw [e1]
  have hS : (sha x).length = 32 := length_sha' _
  refine wg_of (store_hash (by simp) hS (RowL.own (i := 1) s10 rfl)) ?_
  have s11 := Sp.setRow (j := 1) s10 rfl (.agg ((sha x).map u8v))
  refine wv_of (load_hash hS (RowL.own (i := 1) s11 rfl)) ?_
  exact hQ _ s11.ch

theorem dance_first.use {v : AVal} {l : List UpdM} {n : Int} (hl : CapSl 36 G v (l.map UpdM.av)) (hlen : l.length ≤ 1048576) (hQ : ∀ w, CapSl 36 G w ((firstN l n).map UpdM.av) → Q w G) : ACalls P dance_first.n [v, .int .i64 n] G Q := by
  refine dance_first.sound ?_
  unfold dance_first.S
  refine wv_of (v := .int .i64 (if n < 0 then 0 else n)) rfl ?_
  refine wv_of (upd_len hl.isSl) ?_
  obtain ⟨m, hm, hml, he⟩ : ∃ m : Nat, (if ((l.length : Nat) : Int) < (if n < 0 then 0 else n) then ((l.length : Nat) : Int) else (if n < 0 then 0 else n)) = (m : Int) ∧ m ≤ l.length ∧ l.take m = firstN l n := by
    unfold firstN
    by_cases h0 : n < 0
    · refine ⟨0, ?_, by omega, ?_⟩
      · rw [if_pos h0, if_neg (by omega)]; rfl
      · rw [show n.toNat = 0 by omega]
    · by_cases h1 : ((l.length : Nat) : Int) < n
      · refine ⟨l.length, ?_, by omega, ?_⟩
        · rw [if_neg h0, if_pos h1]
        · rw [List.take_length, List.take_of_length_le (by omega)]
      · refine ⟨n.toNat, ?_, by omega, rfl⟩
        rw [if_neg h0, if_neg h1]; omega
  refine wv_of (v := .int .i64 (m : Int)) (by rw [← hm]; rfl) ?_
  obtain ⟨w, e1, e2⟩ := CapSl.take (ie := ti_api_Update) (k := .i64) (m := m) T_sl_api_Update rfl T_api_Update hl rfl (by rw [List.length_map]; exact hml)
  refine wv_of e1 ?_
  refine hQ w ?_
  rw [← he, List.map_take]
  exact e2

end

end Go.Esc.M

/- Own work. Chapter 15: Offer, Settle, Refuse, Sign, Heard, in the program. -/
set_option linter.unusedSimpArgs false
set_option linter.unusedVariables false
set_option maxRecDepth 20000
namespace Go.Esc.M
open Go Go.Esc

def tupR (x : RcM × Int) : AVal := .tuple [x.1.av .nilSlice, .int .i64 x.2]
theorem tr0 (x : RcM × Int) : vextract (tupR x) 0 = some (x.1.av .nilSlice) := rfl
theorem tr1 (x : RcM × Int) : vextract (tupR x) 1 = some (.int .i64 x.2) := rfl
def noR (e : Int) : RcM × Int := (RcM.zero, e)
def offerS (f : StF) (a : Int) (h : List UInt8) : RcM × Int :=
  if deadS f.s = true then noR 220 else if a < 1 ∨ 1152921504606846976 < a then noR 80 else if fullS f = true then noR 6
  else if 483 ≤ openN f.o f.p (fixB f.s) then noR 131 else if spendO f < a then noR 130 else (recOurs ⟨1, ((addsN f.o : Nat) : Int), a, h, []⟩, 0)
def mayRem (f : StF) (u : UpdM) : Bool :=
  (firstU false u.id (firstN f.p (fixB f.s))).isSome && (!(firstU true u.id f.o).isSome && ((!decide (u.kind = 2) || decide (sha u.hash = ((firstU false u.id (firstN f.p (fixB f.s))).getD UpdM.zero).hash)) && decide (u.note.length ≤ 64)))
def removesS (f : StF) (u : UpdM) : RcM × Int :=
  if deadS f.s = true then noR 220 else if mayRem f u = false then noR 120 else if fullS f = true then noR 6 else (recOurs u, 0)
def signS (f : StF) : RcM × Int :=
  if deadS f.s = true then noR 220 else if f.s.rem ≠ f.s.ack ∨ ((f.o.length : Int) = f.s.sgnA ∧ f.s.atB = f.s.sgnB) then noR 8 else if 281474976710653 < f.s.rem then noR 90
  else ({ RcM.zero with kind := 2, index := f.s.rem + 1, cntA := (f.o.length : Nat), cntB := f.s.atB }, 0)
def heardS (f : StF) (u : UpdM) : Int :=
  if deadS f.s = true then 220 else if 512 ≤ IntKind.i64.wrap ((f.p.length : Int) - f.s.atB) then 131 else if nextU f.p f.o u ≠ 0 then 120
  else if u.kind = 1 then (if 483 ≤ openN f.p f.o (fixA f.s) then 131 else if spendP f < u.amount then 130 else 0)
  else if (firstU false u.id (firstN f.o (fixA f.s))).isSome = false then 120
  else if u.kind = 2 ∧ sha u.hash ≠ ((firstU false u.id (firstN f.o (fixA f.s))).getD UpdM.zero).hash then 120 else 0
theorem pair_eq {t : TypeId} (a b c d : Int) : vbin T .eql t_api_Counts (pairW a b) (pairW c d) = some (.bool (decide (a = c ∧ b = d))) := by
  have : veqD T 9 t_api_Counts (pairW a b) (pairW c d) = some (decide (a = c) && decide (b = d)) := by
    by_cases h1 : a = c <;> by_cases h2 : b = d <;> simp [pairW, veqD, eqF, T_api_Counts, ti_api_Counts, T_int, ti_int, h1, h2, vfits, sz, szs, AVal.isAgg, ADesc.isAgg]
  simp [vbin, pairW] at this ⊢
  rw [this]

section
variable {F0 : List AId} {G0 G : Heap} {ps : List LP} {Q : AVal → Heap → Prop}

theorem build_add {x y : Int} {h : List UInt8} (hl : h.length = 32) : vbuild T t_api_Update [(0, .int .i64 1), (1, .int .i64 x), (2, .int .i64 y), (3, .agg (h.map u8v))] = some (UpdM.av ⟨1, x, y, h, []⟩) := by
  refine (build_struct (zs := UpdM.zero.cs) T_api_Update rfl rfl rfl (plOk_of rfl) fun p hp => ?_).trans rfl
  simp only [List.mem_cons, List.not_mem_nil, or_false] at hp
  rcases hp with rfl | rfl | rfl | rfl
  · rfl
  · rfl
  · rfl
  · show some (Esc.sz (.agg (h0.map u8v))) = some (Esc.sz (.agg (h.map u8v)))
    rw [Esc.sz, Esc.sz, szh hl, szh h0_len]
theorem build_ful {x : Int} {h : List UInt8} (hl : h.length = 32) : vbuild T t_api_Update [(0, .int .i64 2), (1, .int .i64 x), (3, .agg (h.map u8v))] = some (UpdM.av ⟨2, x, 0, h, []⟩) := by
  refine (build_struct (zs := UpdM.zero.cs) T_api_Update rfl rfl rfl (plOk_of rfl) fun p hp => ?_).trans rfl
  simp only [List.mem_cons, List.not_mem_nil, or_false] at hp
  rcases hp with rfl | rfl | rfl
  · rfl
  · rfl
  · show some (Esc.sz (.agg (h0.map u8v))) = some (Esc.sz (.agg (h.map u8v)))
    rw [Esc.sz, Esc.sz, szh hl, szh h0_len]
theorem build_fail (x : Int) (n : List UInt8) : vbuild T t_api_Update [(0, .int .i64 3), (1, .int .i64 x), (4, .str n)] = some (UpdM.av ⟨3, x, 0, h0, n⟩) := by
  refine (build_struct (zs := UpdM.zero.cs) T_api_Update rfl rfl rfl (plOk_of rfl) fun p hp => ?_).trans rfl
  simp only [List.mem_cons, List.not_mem_nil, or_false] at hp
  rcases hp with rfl | rfl | rfl <;> rfl

set_option maxHeartbeats 4000000 in
theorem dance_Offer.use {f : StF} {vo vp vh : AVal} {a : Int} {h : List UInt8} (hS : StIn G f vo vp vh) (hh : h.length = 32) (hQ : ∀ G', Ch [] G [] G' → Q (tupR (offerS f a h)) G') : ACalls P dance_Offer.n [f.s.av vo vp vh, .int .i64 a, .agg (h.map u8v)] G Q := by
  have ho := hS.ok
  have hl := hS.lv
  refine dance_Offer.sound ?_
  unfold dance_Offer.S
  rw [zRec]
  unfold offerS at hQ
  intro i1 f1
  have s1 := (Sp.nil G).row f1 (f.s.av vo vp vh)
  intro i3 f3
  have s3 := s1.row f3 (.agg (h.map u8v))
  intro i5 f5
  have s5 := s3.row f5 (RcM.zero.av .nilSlice)
  revert s5
  generalize Heap.upd _ i5 _ = G6
  intro s5
  refine wv_of (St.ld (RowL.own (i := 2) s5 rfl) ho hl) ?_
  refine dance_dead.use (hS.mv s5.ch) fun G9 c9 => ?_
  have s9 := s5.tmp c9
  rw [brB_bool]
  refine ⟨fun hd => ?_, fun hd => ?_⟩
  · rw [if_pos hd] at hQ
    exact rc_no (j := 0) s9 rfl RcM.zero_ok Leaf.nil fun G' s' => hQ G' s'.ch
  rw [if_neg (by rw [hd]; decide)] at hQ
  have s9 : Sp [] G [RowL i5 (RcM.zero.av .nilSlice), RowL i3 (.agg (h.map u8v)), RowL i1 (f.s.av vo vp vh)] G9 := s9
  intro J45
  have bad : (a < 1 ∨ 1152921504606846976 < a) → J45 (.bool true) G9 := by
    intro hb
    rw [if_pos hb] at hQ
    simp -zeta only [J45, brB_true]
    exact rc_no (j := 0) s9 rfl RcM.zero_ok Leaf.nil fun G' s' => hQ G' s'.ch
  have good : ¬ (a < 1 ∨ 1152921504606846976 < a) → J45 (.bool false) G9 := by
    intro hb
    rw [if_neg hb] at hQ
    simp -zeta only [J45, brB_false]
    refine wv_of (St.ld (RowL.own (i := 2) s9 rfl) ho hl) ?_
    refine dance_full.use (hS.mv s9.ch) fun G22 c22 => ?_
    have s22 := s9.tmp c22
    rw [brB_bool]
    refine ⟨fun hf => ?_, fun hf => ?_⟩
    · rw [if_pos hf] at hQ
      exact rc_no (j := 0) s22 rfl RcM.zero_ok Leaf.nil fun G' s' => hQ G' s'.ch
    rw [if_neg (by rw [hf]; decide)] at hQ
    have hg := RowL.own (i := 2) s22 rfl
    refine wv_of (St.ld_ours hg ho hl) ?_
    refine wv_of (St.ld_peers hg ho hl) ?_
    refine wv_of (St.ld hg ho hl) ?_
    refine dance_Fixed.use (hS.mv s22.ch) fun G30 c30 => ?_
    have s30 := s22.tmp c30
    have hg := RowL.own (i := 2) s30 rfl
    refine ⟨⟨St.ld_peers hg ho hl, St.ld_ours hg ho hl, trivial⟩, ?_⟩
    refine wv_of (v := .int .i64 (fixB f.s)) rfl ?_
    refine ledger_Open.use (hS.o.isSl.ch' s30.ch) (hS.p.mv s30.ch) hS.oko hS.okp (by have := hS.lo; omega) (by have := hS.lp; omega) fun G33 c33 => ?_
    have s33 := s30.tmp c33
    rw [vbin_geq, wv_some, brB_dec]
    refine ⟨fun h4 => ?_, fun h4 => ?_⟩
    · rw [if_pos (by omega)] at hQ
      exact rc_no (j := 0) s33 rfl RcM.zero_ok Leaf.nil fun G' s' => hQ G' s'.ch
    rw [if_neg (by omega)] at hQ
    refine wv_of (St.ld (RowL.own (i := 2) s33 rfl) ho hl) ?_
    refine dance_Spendable.use (hS.mv s33.ch) fun G40 c40 => ?_
    have s40 := s33.tmp c40
    rw [vbin_gtr, wv_some, brB_dec]
    refine ⟨fun h5 => ?_, fun h5 => ?_⟩
    · rw [if_pos h5] at hQ
      exact rc_no (j := 0) s40 rfl RcM.zero_ok Leaf.nil fun G' s' => hQ G' s'.ch
    rw [if_neg h5] at hQ
    refine wv_of (St.ld_ours (RowL.own (i := 2) s40 rfl) ho hl) ?_
    refine wv_of (upd_len (hS.o.isSl.ch' s40.ch)) ?_
    have hlo := hS.lo
    intro R48 hR48
    have s40 : Sp [] G [RowL i5 (RcM.zero.av .nilSlice), RowL i3 (.agg (h.map u8v)), RowL i1 (f.s.av vo vp vh)] G40 := s40
    have loop : ∀ (n j : Nat) (G' : Heap), f.o.length - j = n → j ≤ f.o.length → Sp [] G [RowL i5 (RcM.zero.av .nilSlice), RowL i3 (.agg (h.map u8v)), RowL i1 (f.s.av vo vp vh)] G' →
        R48 [.int .i64 a, .ptr i3 [] 0, .ptr i5 [] 0, .int .i64 ((addsN (f.o.take j) : Nat) : Int), vo, .int .i64 (f.o.length : Nat), .int .i64 (j : Int)] G' := by
      intro n
      induction n with
      | zero =>
        intro j G' hn hj sp
        refine hR48 _ _ _ _ _ _ _ _ ?_
        rw [vbin_lss, wv_some, decide_eq_false (by omega), brB_false, List.take_of_length_le (by omega)]
        have hal := addsN_le f.o
        have hu : (⟨1, ((addsN f.o : Nat) : Int), a, h, []⟩ : UpdM).ok := ⟨i64_n 1 (by decide) (by decide), i64_n ((addsN f.o : Nat) : Int) (by omega) (by omega), i64_n a (by omega) (by omega), hh, by simp⟩
        refine wv_of (load_hash hh (RowL.own (i := 1) sp rfl)) ?_
        refine wv_of (build_add hh) ?_
        refine dance_mine.use hu fun G76 c76 => ?_
        have s76 := sp.tmp c76
        refine Rc.st (i := 0) s76 rfl RcM.zero_ok Leaf.nil (recOurs_ok hu) Leaf.nil fun G77 s77 => ?_
        refine wv_of (Rc.ld (RowL.own (i := 0) s77 rfl) (recOurs_ok hu) Leaf.nil) ?_
        exact hQ _ s77.ch
      | succ n ih =>
        intro j G' hn hj sp
        obtain ⟨u, hu⟩ : ∃ u, f.o[j]? = some u := ⟨_, List.getElem?_eq_getElem (by omega)⟩
        have huo := hS.oko u (List.mem_of_getElem? hu)
        have hle := addsN_le (f.o.take j)
        rw [List.length_take] at hle
        have e : addsN (f.o.take (j + 1)) = addsN (f.o.take j) + if u.kind = 1 then 1 else 0 := by
          rw [List.take_add_one, hu, addsN_append]
          congr 1
          by_cases h : u.kind = 1 <;> simp [addsN, h]
        refine hR48 _ _ _ _ _ _ _ _ ?_
        rw [vbin_lss, wv_some, decide_eq_true (by omega), brB_true]
        obtain ⟨p, e1, e2⟩ := upd_at (hS.o.isSl.ch' sp.ch) hu
        refine wv_of e1 ?_
        refine wv_of e2 ?_
        refine newU sp huo fun i60 G62 s62 => ?_
        have ih := ih (j + 1) G62 (by omega) (by omega) (s62.erase 0)
        rw [e] at ih
        refine wv_of (upd_load (i := 0) s62 rfl huo).1 ?_
        rw [vbin_eql, wv_some, brB_dec]
        refine ⟨fun hk => ?_, fun hk => ?_⟩
        · rw [if_pos hk] at ih
          rw [vbin_add, i64_in (by omega) (by omega), wv_some, vbin_add, i64_in (by omega) (by omega), wv_some]
          exact ih
        · rw [if_neg hk] at ih
          rw [vbin_add, i64_in (by omega) (by omega), wv_some]
          exact ih
    exact loop _ 0 G40 rfl (by omega) s40
  rw [vbin_lss, wv_some, brB_dec]
  refine ⟨fun h1 => bad (.inl h1), fun h1 => ?_⟩
  rw [vbin_gtr, wv_some]
  by_cases h2 : 1152921504606846976 < a
  · rw [decide_eq_true h2]
    exact bad (.inr h2)
  · rw [decide_eq_false h2]
    exact good (by omega)

set_option maxHeartbeats 4000000 in
theorem dance_removes.use {f : StF} {vo vp vh : AVal} {u : UpdM} (hS : StIn G f vo vp vh) (hu : u.ok) (hQ : ∀ G', Ch [] G [] G' → Q (tupR (removesS f u)) G') : ACalls P dance_removes.n [f.s.av vo vp vh, u.av] G Q := by
  have ho := hS.ok
  have hl := hS.lv
  refine dance_removes.sound ?_
  unfold dance_removes.S
  rw [zRec]
  unfold removesS at hQ
  intro i1 f1
  have s1 := (Sp.nil G).row f1 (f.s.av vo vp vh)
  intro i3 f3
  have s3 := s1.row f3 u.av
  intro i5 f5
  have s5 := s3.row f5 (RcM.zero.av .nilSlice)
  revert s5
  generalize Heap.upd _ i5 _ = G6
  intro s5
  refine wv_of (St.ld (RowL.own (i := 2) s5 rfl) ho hl) ?_
  refine dance_dead.use (hS.mv s5.ch) fun G9 c9 => ?_
  have s9 := s5.tmp c9
  rw [brB_bool]
  refine ⟨fun hd => ?_, fun hd => ?_⟩
  · rw [if_pos hd] at hQ
    exact rc_no (j := 0) s9 rfl RcM.zero_ok Leaf.nil fun G' s' => hQ G' s'.ch
  rw [if_neg (by rw [hd]; decide)] at hQ
  have hg := RowL.own (i := 2) s9 rfl
  refine wv_of (St.ld_peers hg ho hl) ?_
  refine wv_of (St.ld hg ho hl) ?_
  refine wv_of (upd_load (i := 1) s9 rfl hu).2.1 ?_
  refine dance_Fixed.use (hS.mv s9.ch) fun G17 c17 => ?_
  have s17 := s9.tmp c17
  have hg := RowL.own (i := 2) s17 rfl
  refine ⟨⟨(upd_load (i := 1) s17 rfl hu).2.1, St.ld_peers hg ho hl, trivial⟩, ?_⟩
  refine wv_of (v := .int .i64 (fixB f.s)) rfl ?_
  refine dance_first.use (hS.p.mv s17.ch) hS.lp fun w hw => ?_
  refine ⟨⟨(upd_load (i := 1) s17 rfl hu).2.1, trivial⟩, ?_⟩
  have hfl := firstN_len f.p (fixB f.s)
  have hfo := firstN_ok (n := fixB f.s) hS.okp
  have hlp := hS.lp
  have hlo := hS.lo
  refine update_Find.use hw.isSl hfo (by omega) fun G22 c22 => ?_
  have s22 := s17.tmp c22
  have hA := firstU_ok (rm := false) (id := u.id) hfo
  have hB := firstU_ok (rm := true) (id := u.id) hS.oko
  unfold mayRem at hQ
  obtain ⟨A, eA⟩ : ∃ A, A = firstU false u.id (firstN f.p (fixB f.s)) := ⟨_, rfl⟩
  obtain ⟨B, eB⟩ : ∃ A, A = firstU true u.id f.o := ⟨_, rfl⟩
  rw [← eA] at hA hQ ⊢
  rw [← eB] at hB hQ
  refine wv_of (opt0 _) ?_
  refine wv_of (opt1 _) ?_
  refine newU s22 hA fun i25 G27 s27 => ?_
  refine wv_of (St.ld_ours (RowL.own (i := 3) s27 rfl) ho hl) ?_
  refine wv_of (upd_load (i := 2) s27 rfl hu).2.1 ?_
  refine update_Removal.use (hS.o.isSl.ch' s27.ch) hS.oko (by omega) fun G31 c31 => ?_
  have s31 := s27.tmp c31
  rw [← eB]
  refine wv_of (opt0 _) ?_
  refine wv_of (opt1 _) ?_
  refine newU s31 hB fun i34 G36 s36 => ?_
  have s36 : Sp [] G [RowL i34 (B.getD UpdM.zero).av, RowL i25 (A.getD UpdM.zero).av, RowL i5 (RcM.zero.av .nilSlice), RowL i3 u.av, RowL i1 (f.s.av vo vp vh)] G36 := s36
  obtain ⟨may, hmay⟩ : ∃ m, m = (A.isSome && (!B.isSome && ((!decide (u.kind = 2) || decide (sha u.hash = (A.getD UpdM.zero).hash)) && decide (u.note.length ≤ 64)))) := ⟨_, rfl⟩
  rw [← hmay] at hQ
  intro J67
  have bad : ∀ G2, Sp [] G [RowL i34 (B.getD UpdM.zero).av, RowL i25 (A.getD UpdM.zero).av, RowL i5 (RcM.zero.av .nilSlice), RowL i3 u.av, RowL i1 (f.s.av vo vp vh)] G2 → may = false → J67 (.bool true) G2 := by
    intro G2 s2 hm
    rw [if_pos hm] at hQ
    simp -zeta only [J67, brB_true]
    exact rc_no (j := 2) s2 rfl RcM.zero_ok Leaf.nil fun G' s' => hQ G' s'.ch
  have good : ∀ G2, Sp [] G [RowL i34 (B.getD UpdM.zero).av, RowL i25 (A.getD UpdM.zero).av, RowL i5 (RcM.zero.av .nilSlice), RowL i3 u.av, RowL i1 (f.s.av vo vp vh)] G2 → may = true → J67 (.bool false) G2 := by
    intro G2 s2 hm
    rw [if_neg (by rw [hm]; decide)] at hQ
    simp -zeta only [J67, brB_false]
    refine wv_of (St.ld (RowL.own (i := 4) s2 rfl) ho hl) ?_
    refine dance_full.use (hS.mv s2.ch) fun G58 c58 => ?_
    have s58 := s2.tmp c58
    rw [brB_bool]
    refine ⟨fun hf => ?_, fun hf => ?_⟩
    · rw [if_pos hf] at hQ
      exact rc_no (j := 2) s58 rfl RcM.zero_ok Leaf.nil fun G' s' => hQ G' s'.ch
    rw [if_neg (by rw [hf]; decide)] at hQ
    refine wv_of (upd_load (i := 3) s58 rfl hu).2.2.2.2.2 ?_
    refine dance_mine.use hu fun G64 c64 => ?_
    have s64 := s58.tmp c64
    refine Rc.st (i := 2) s64 rfl RcM.zero_ok Leaf.nil (recOurs_ok hu) Leaf.nil fun G65 s65 => ?_
    refine wv_of (Rc.ld (RowL.own (i := 2) s65 rfl) (recOurs_ok hu) Leaf.nil) ?_
    exact hQ _ s65.ch
  have note : ∀ G2, Sp [] G [RowL i34 (B.getD UpdM.zero).av, RowL i25 (A.getD UpdM.zero).av, RowL i5 (RcM.zero.av .nilSlice), RowL i3 u.av, RowL i1 (f.s.av vo vp vh)] G2 → may = decide (u.note.length ≤ 64) →
      wv (vload T G2 t_string (.ptr i3 [4] 35)) fun v45 => wv (vlen T G2 t_string v45) fun v46 => wv (vbin T .gtr t_int v46 (.int .i64 64)) fun v47 => J67 v47 G2 := by
    intro G2 s2 hm
    refine wv_of (upd_load (i := 3) s2 rfl hu).2.2.2.2.1 ?_
    refine wv_of (v := .int .i64 (u.note.length : Nat)) rfl ?_
    rw [vbin_gtr, wv_some]
    by_cases hn : u.note.length ≤ 64
    · rw [decide_eq_false (by omega)]
      exact good G2 s2 (by rw [hm, decide_eq_true hn])
    · rw [decide_eq_true (by omega)]
      exact bad G2 s2 (by rw [hm, decide_eq_false hn])
  rw [vun_not, wv_some]
  cases hAs : A.isSome with
  | false =>
    rw [hAs, Bool.false_and] at hmay
    rw [Bool.not_false, brB_true]
    exact bad _ s36 hmay
  | true =>
    rw [hAs, Bool.true_and] at hmay
    rw [Bool.not_true, brB_false]
    cases hBs : B.isSome with
    | true =>
      rw [hBs, Bool.not_true, Bool.false_and] at hmay
      rw [brB_true]
      exact bad _ s36 hmay
    | false =>
      rw [hBs, Bool.not_false, Bool.true_and] at hmay
      rw [brB_false]
      refine wv_of (upd_load (i := 3) s36 rfl hu).1 ?_
      rw [vbin_eql, wv_some, brB_dec]
      refine ⟨fun hk => ?_, fun hk => ?_⟩
      · rw [decide_eq_true hk, Bool.not_true, Bool.false_or] at hmay
        refine wv_of (upd_load (i := 3) s36 rfl hu).2.2.2.1 ?_
        refine wv_of (upd_load (i := 1) s36 rfl hA).2.2.2.1 ?_
        refine dance_sum.use hu.hash fun G43 c43 => ?_
        have s43 := s36.tmp c43
        refine ⟨⟨(upd_load (i := 1) s43 rfl hA).2.2.2.1, trivial⟩, ?_⟩
        rw [hash_neq (length_sha' _) hA.hash, wv_some, brB_ndec]
        refine ⟨fun hne => ?_, fun he => ?_⟩
        · rw [decide_eq_false hne, Bool.false_and] at hmay
          exact bad _ s43 hmay
        · rw [decide_eq_true he, Bool.true_and] at hmay
          exact note _ s43 hmay
      · rw [decide_eq_false hk, Bool.not_false, Bool.true_or, Bool.true_and] at hmay
        exact note _ s36 hmay

theorem removesS_ok {f : StF} {u : UpdM} (hu : u.ok) : (removesS f u).1.ok := by
  unfold removesS noR
  split
  · exact RcM.zero_ok
  · split
    · exact RcM.zero_ok
    · split
      · exact RcM.zero_ok
      · exact recOurs_ok hu

theorem dance_Settle.use {f : StF} {vo vp vh : AVal} {id : Int} {h : List UInt8} (hS : StIn G f vo vp vh) (hi : I64 id) (hh : h.length = 32) (hQ : ∀ G', Ch [] G [] G' → Q (tupR (removesS f ⟨2, id, 0, h, []⟩)) G') : ACalls P dance_Settle.n [f.s.av vo vp vh, .int .i64 id, .agg (h.map u8v)] G Q := by
  have ho := hS.ok
  have hl := hS.lv
  refine dance_Settle.sound ?_
  unfold dance_Settle.S
  rw [zRec]
  intro i1 f1
  have s1 := (Sp.nil G).row f1 (f.s.av vo vp vh)
  intro i3 f3
  have s3 := s1.row f3 (.agg (h.map u8v))
  intro i5 f5
  have s5 := s3.row f5 (RcM.zero.av .nilSlice)
  revert s5
  generalize Heap.upd _ i5 _ = G6
  intro s5
  have hu : (⟨2, id, 0, h, []⟩ : UpdM).ok := ⟨i64_n 2 (by decide) (by decide), hi, i64_0, hh, by simp⟩
  refine wv_of (St.ld (RowL.own (i := 2) s5 rfl) ho hl) ?_
  refine wv_of (load_hash hh (RowL.own (i := 1) s5 rfl)) ?_
  refine wv_of (build_ful hh) ?_
  refine dance_removes.use (hS.mv s5.ch) hu fun G11 c11 => ?_
  have s11 := s5.tmp c11
  refine wv_of (tr0 _) ?_
  refine wv_of (tr1 _) ?_
  refine Rc.st (i := 0) s11 rfl RcM.zero_ok Leaf.nil (removesS_ok hu) Leaf.nil fun G14 s14 => ?_
  refine wv_of (Rc.ld (RowL.own (i := 0) s14 rfl) (removesS_ok hu) Leaf.nil) ?_
  exact hQ _ s14.ch

theorem dance_Refuse.use {f : StF} {vo vp vh : AVal} {id : Int} {n : List UInt8} (hS : StIn G f vo vp vh) (hi : I64 id) (hn : n.length ≤ 9223372036854775807) (hQ : ∀ G', Ch [] G [] G' → Q (tupR (removesS f ⟨3, id, 0, h0, n⟩)) G') : ACalls P dance_Refuse.n [f.s.av vo vp vh, .int .i64 id, .str n] G Q := by
  have ho := hS.ok
  have hl := hS.lv
  refine dance_Refuse.sound ?_
  unfold dance_Refuse.S
  rw [zRec]
  intro i1 f1
  have s1 := (Sp.nil G).row f1 (f.s.av vo vp vh)
  intro i3 f3
  have s3 := s1.row f3 (RcM.zero.av .nilSlice)
  revert s3
  generalize Heap.upd _ i3 _ = G4
  intro s3
  have hu : (⟨3, id, 0, h0, n⟩ : UpdM).ok := ⟨i64_n 3 (by decide) (by decide), hi, i64_0, rfl, hn⟩
  refine wv_of (St.ld (RowL.own (i := 1) s3 rfl) ho hl) ?_
  refine wv_of (build_fail _ _) ?_
  refine dance_removes.use (hS.mv s3.ch) hu fun G8 c8 => ?_
  have s8 := s3.tmp c8
  refine wv_of (tr0 _) ?_
  refine wv_of (tr1 _) ?_
  refine Rc.st (i := 0) s8 rfl RcM.zero_ok Leaf.nil (removesS_ok hu) Leaf.nil fun G11 s11 => ?_
  refine wv_of (Rc.ld (RowL.own (i := 0) s11 rfl) (removesS_ok hu) Leaf.nil) ?_
  exact hQ _ s11.ch

theorem build_sgn {x a b : Int} : vbuild T t_api_Record [(0, .int .i64 2), (3, .int .i64 x), (4, pairW a b)] = some (({ RcM.zero with kind := 2, index := x, cntA := a, cntB := b } : RcM).av .nilSlice) := by
  refine build_rc (fun p hp => ?_) rfl
  simp only [List.mem_cons, List.not_mem_nil, or_false] at hp
  rcases hp with rfl | rfl | rfl <;> rfl

set_option maxHeartbeats 2000000 in
theorem dance_Sign.use {f : StF} {c : CfM} {vo vp vh : AVal} (hS : StIn G f vo vp vh) (hQ : ∀ G', Ch [] G [] G' → Q (tupR (signS f)) G') : ACalls P dance_Sign.n [c.av, f.s.av vo vp vh] G Q := by
  have ho := hS.ok
  have hl := hS.lv
  have hlo := hS.lo
  refine dance_Sign.sound ?_
  unfold dance_Sign.S
  rw [zRec]
  unfold signS at hQ
  intro i1 f1
  have s1 := (Sp.nil G).row f1 c.av
  intro i3 f3
  have s3 := s1.row f3 (f.s.av vo vp vh)
  intro i5 f5
  have s5 := s3.row f5 (RcM.zero.av .nilSlice)
  revert s5
  generalize Heap.upd _ i5 _ = G6
  intro s5
  have hg := RowL.own (i := 1) s5 rfl
  refine wv_of (St.ld_ours hg ho hl) ?_
  refine wv_of (upd_len (hS.o.isSl.ch' s5.ch)) ?_
  refine wv_of (St.ld_atB hg ho hl) ?_
  refine wv_of (v := pairW (f.o.length : Nat) f.s.atB) rfl ?_
  refine newVal (c := pairW (f.o.length : Nat) f.s.atB) s5 T_api_Counts rfl rfl rfl fun i11 G13 s13 => ?_
  refine wv_of (St.ld (RowL.own (i := 2) s13 rfl) ho hl) ?_
  refine dance_dead.use (hS.mv s13.ch) fun G16 c16 => ?_
  have s16 := s13.tmp c16
  have s16 : Sp [] G [RowL i11 (pairW (f.o.length : Nat) f.s.atB), RowL i5 (RcM.zero.av .nilSlice), RowL i3 (f.s.av vo vp vh), RowL i1 c.av] G16 := s16
  rw [brB_bool]
  refine ⟨fun hd => ?_, fun hd => ?_⟩
  · rw [if_pos hd] at hQ
    exact rc_no (j := 1) s16 rfl RcM.zero_ok Leaf.nil fun G' s' => hQ G' s'.ch
  rw [if_neg (by rw [hd]; decide)] at hQ
  have hg := RowL.own (i := 2) s16 rfl
  intro J36
  have bad : (f.s.rem ≠ f.s.ack ∨ ((f.o.length : Int) = f.s.sgnA ∧ f.s.atB = f.s.sgnB)) → J36 (.bool true) G16 := by
    intro hb
    rw [if_pos hb] at hQ
    simp -zeta only [J36, brB_true]
    exact rc_no (j := 1) s16 rfl RcM.zero_ok Leaf.nil fun G' s' => hQ G' s'.ch
  have good : ¬ (f.s.rem ≠ f.s.ack ∨ ((f.o.length : Int) = f.s.sgnA ∧ f.s.atB = f.s.sgnB)) → J36 (.bool false) G16 := by
    intro hb
    rw [if_neg hb] at hQ
    simp -zeta only [J36, brB_false]
    refine wv_of (St.ld_rem hg ho hl) ?_
    rw [vbin_gtr, wv_some, brB_dec]
    refine ⟨fun h1 => ?_, fun h1 => ?_⟩
    · rw [if_pos h1] at hQ
      exact rc_no (j := 1) s16 rfl RcM.zero_ok Leaf.nil fun G' s' => hQ G' s'.ch
    rw [if_neg h1] at hQ
    have hr := ho.rem
    have hok : ({ RcM.zero with kind := 2, index := f.s.rem + 1, cntA := (f.o.length : Nat), cntB := f.s.atB } : RcM).ok :=
      ⟨i64_n 2 (by decide) (by decide), UpdM.zero_ok, i64_n (f.s.rem + 1) (by have := hr.1; omega) (by omega), i64_n (f.o.length : Nat) (by omega) (by omega), ho.atB, rfl, rfl, rfl, i64_0⟩
    refine wv_of (St.ld_rem hg ho hl) ?_
    rw [vbin_add, i64_in (by have := hr.1; omega) (by omega), wv_some]
    refine wv_of (whole_load T_api_Counts (RowL.own (i := 0) s16 rfl) rfl) ?_
    refine wv_of build_sgn ?_
    refine Rc.st (i := 1) s16 rfl RcM.zero_ok Leaf.nil hok Leaf.nil fun G41 s41 => ?_
    refine wv_of (Rc.ld (RowL.own (i := 1) s41 rfl) hok Leaf.nil) ?_
    exact hQ _ s41.ch
  refine wv_of (St.ld_rem hg ho hl) ?_
  refine wv_of (St.ld_ack hg ho hl) ?_
  rw [vbin_neq, wv_some, brB_ndec]
  refine ⟨fun h1 => bad (.inl h1), fun h1 => ?_⟩
  refine wv_of (whole_load T_api_Counts (RowL.own (i := 0) s16 rfl) rfl) ?_
  refine wv_of (St.ld_sgn hg ho hl) ?_
  rw [pair_eq (t := t_api_Counts), wv_some]
  by_cases h2 : (f.o.length : Int) = f.s.sgnA ∧ f.s.atB = f.s.sgnB
  · rw [decide_eq_true h2]
    exact bad (.inr h2)
  · rw [decide_eq_false h2]
    exact good (by rintro (h | h); exact h h1; exact h2 h)

set_option maxHeartbeats 4000000 in
theorem dance_Heard.use {f : StF} {vo vp vh : AVal} {u : UpdM} (hS : StIn G f vo vp vh) (hu : u.ok) (hQ : ∀ G', Ch [] G [] G' → Q (.int .i64 (heardS f u)) G') : ACalls P dance_Heard.n [f.s.av vo vp vh, u.av] G Q := by
  have ho := hS.ok
  have hl := hS.lv
  have hlo := hS.lo
  have hlp := hS.lp
  refine dance_Heard.sound ?_
  unfold dance_Heard.S
  unfold heardS at hQ
  intro i1 f1
  have s1 := (Sp.nil G).row f1 (f.s.av vo vp vh)
  intro i3 f3
  have s3 := s1.row f3 u.av
  revert s3
  generalize Heap.upd _ i3 _ = G4
  intro s3
  refine wv_of (St.ld (RowL.own (i := 1) s3 rfl) ho hl) ?_
  refine dance_Fixed.use (hS.mv s3.ch) fun G7 c7 => ?_
  have s7 := s3.tmp c7
  refine newVal (c := pairW (fixA f.s) (fixB f.s)) s7 T_api_Counts rfl rfl rfl fun i8 G10 s10 => ?_
  have s10 : Sp [] G [RowL i8 (pairW (fixA f.s) (fixB f.s)), RowL i3 u.av, RowL i1 (f.s.av vo vp vh)] G10 := s10
  intro J78
  have rem : ∀ G2, Sp [] G [RowL i8 (pairW (fixA f.s) (fixB f.s)), RowL i3 u.av, RowL i1 (f.s.av vo vp vh)] G2 →
      (∀ G', Ch [] G [] G' → Q (.int .i64 (if (firstU false u.id (firstN f.o (fixA f.s))).isSome = false then 120 else if u.kind = 2 ∧ sha u.hash ≠ ((firstU false u.id (firstN f.o (fixA f.s))).getD UpdM.zero).hash then 120 else 0)) G') → J78 G2 := by
    intro G55 s55 hQ
    simp -zeta only [J78]
    refine wv_of (St.ld_ours (RowL.own (i := 2) s55 rfl) ho hl) ?_
    refine wv_of (count_load (RowL.own (i := 0) s55 rfl)).1 ?_
    refine wv_of (upd_load (i := 1) s55 rfl hu).2.1 ?_
    refine dance_first.use (hS.o.mv s55.ch) hS.lo fun w hw => ?_
    refine ⟨⟨(upd_load (i := 1) s55 rfl hu).2.1, trivial⟩, ?_⟩
    have hfl := firstN_len f.o (fixA f.s)
    have hfo := firstN_ok (n := fixA f.s) hS.oko
    refine update_Find.use hw.isSl hfo (by omega) fun G62 c62 => ?_
    have s62 := s55.tmp c62
    have hA := firstU_ok (rm := false) (id := u.id) hfo
    obtain ⟨A, eA⟩ : ∃ A, A = firstU false u.id (firstN f.o (fixA f.s)) := ⟨_, rfl⟩
    rw [← eA] at hA hQ ⊢
    refine wv_of (opt0 _) ?_
    refine wv_of (opt1 _) ?_
    refine newU s62 hA fun i65 G67 s67 => ?_
    rw [vun_not, wv_some]
    cases hAs : A.isSome with
    | false =>
      rw [hAs, if_pos rfl] at hQ
      exact hQ _ s67.ch
    | true =>
      rw [hAs, if_neg (by decide)] at hQ
      rw [Bool.not_true, brB_false]
      refine wv_of (upd_load (i := 2) s67 rfl hu).1 ?_
      rw [vbin_eql, wv_some, brB_dec]
      refine ⟨fun hk => ?_, fun hk => ?_⟩
      · refine wv_of (upd_load (i := 2) s67 rfl hu).2.2.2.1 ?_
        refine wv_of (upd_load (i := 0) s67 rfl hA).2.2.2.1 ?_
        refine dance_sum.use hu.hash fun G74 c74 => ?_
        have s74 := s67.tmp c74
        refine ⟨⟨(upd_load (i := 0) s74 rfl hA).2.2.2.1, trivial⟩, ?_⟩
        rw [hash_neq (length_sha' _) hA.hash, wv_some, brB_ndec]
        refine ⟨fun hne => ?_, fun he => ?_⟩
        · rw [if_pos ⟨hk, hne⟩] at hQ
          exact hQ _ s74.ch
        · rw [if_neg (fun hh => hh.2 he)] at hQ
          exact hQ _ s74.ch
      · rw [if_neg (fun hh => hk hh.1)] at hQ
        exact hQ _ s67.ch
  refine wv_of (St.ld (RowL.own (i := 2) s10 rfl) ho hl) ?_
  refine dance_dead.use (hS.mv s10.ch) fun G13 c13 => ?_
  have s13 := s10.tmp c13
  rw [brB_bool]
  refine ⟨fun hd => ?_, fun hd => ?_⟩
  · rw [if_pos hd] at hQ
    exact hQ _ s13.ch
  rw [if_neg (by rw [hd]; decide)] at hQ
  have hg := RowL.own (i := 2) s13 rfl
  refine wv_of (St.ld_peers hg ho hl) ?_
  refine wv_of (upd_len (hS.p.isSl.ch' s13.ch)) ?_
  refine wv_of (St.ld_atB hg ho hl) ?_
  rw [vbin_sub, wv_some, vbin_geq, wv_some, brB_dec]
  refine ⟨fun h1 => ?_, fun h1 => ?_⟩
  · rw [if_pos h1] at hQ
    exact hQ _ s13.ch
  rw [if_neg h1] at hQ
  refine wv_of (St.ld_peers hg ho hl) ?_
  refine wv_of (St.ld_ours hg ho hl) ?_
  refine wv_of (upd_load (i := 1) s13 rfl hu).2.2.2.2.2 ?_
  refine update_Next.use (hS.p.isSl.ch' s13.ch) (hS.o.isSl.ch' s13.ch) hS.okp hS.oko (by omega) (by omega) hu fun G23 c23 => ?_
  have s23 := s13.tmp c23
  rw [vbin_neq, wv_some, brB_ndec]
  refine ⟨fun h2 => ?_, fun h2 => ?_⟩
  · rw [if_pos h2] at hQ
    exact hQ _ s23.ch
  rw [if_neg (by simpa using h2)] at hQ
  intro J51
  refine wv_of (upd_load (i := 1) s23 rfl hu).1 ?_
  rw [vbin_eql, wv_some, brB_dec]
  refine ⟨fun hk => ?_, fun hk => ?_⟩
  · rw [if_pos hk] at hQ
    have hg := RowL.own (i := 2) s23 rfl
    refine wv_of (St.ld_peers hg ho hl) ?_
    refine wv_of (St.ld_ours hg ho hl) ?_
    refine wv_of (count_load (RowL.own (i := 0) s23 rfl)).1 ?_
    refine ledger_Open.use (hS.p.isSl.ch' s23.ch) (hS.o.mv s23.ch) hS.okp hS.oko (by have := hS.lp; omega) (by have := hS.lo; omega) fun G31 c31 => ?_
    have s31 := s23.tmp c31
    rw [vbin_geq, wv_some]
    by_cases h3 : (483 : Int) ≤ ((openN f.p f.o (fixA f.s) : Nat) : Int)
    · rw [if_pos (by omega)] at hQ
      rw [decide_eq_true h3]
      simp -zeta only [J51, brB_true]
      exact hQ _ s31.ch
    · rw [if_neg (by omega)] at hQ
      rw [decide_eq_false h3]
      simp -zeta only [J51, brB_false]
      refine wv_of (upd_load (i := 1) s31 rfl hu).1 ?_
      rw [hk, ez0, wv_some, brB_true]
      refine wv_of (upd_load (i := 1) s31 rfl hu).2.2.1 ?_
      refine wv_of (St.ld (RowL.own (i := 2) s31 rfl) ho hl) ?_
      refine dance_PeerSpendable.use (hS.mv s31.ch) fun G40 c40 => ?_
      have s40 := s31.tmp c40
      refine ⟨⟨(upd_load (i := 1) s40 rfl hu).2.2.1, trivial⟩, ?_⟩
      rw [vbin_gtr, wv_some, brB_dec]
      refine ⟨fun h4 => ?_, fun h4 => ?_⟩
      · rw [if_pos h4] at hQ
        exact hQ _ s40.ch
      rw [if_neg h4] at hQ
      refine wv_of (upd_load (i := 1) s40 rfl hu).1 ?_
      rw [hk, ez0, wv_some, brB_true]
      exact hQ _ s40.ch
  · rw [if_neg hk] at hQ
    simp -zeta only [J51, brB_false]
    have e1 : vbin T .eql t_int (.int .i64 u.kind) (.int .i64 1) = some (.bool false) := by rw [vbin_eql, decide_eq_false hk]
    refine wv_of (upd_load (i := 1) s23 rfl hu).1 ?_
    rw [e1, wv_some, brB_false]
    refine wv_of (upd_load (i := 1) s23 rfl hu).1 ?_
    rw [e1, wv_some, brB_false]
    exact rem _ s23 hQ

end

end Go.Esc.M

/- Own work. Chapter 15: own texts, Came, Again, Reveal, Revoked, Cut, Start, in the program. -/
set_option linter.unusedSimpArgs false
set_option linter.unusedVariables false
set_option maxRecDepth 20000
namespace Go.Esc.M
open Go Go.Esc

theorem secretS_len {s : List UInt8} (h : s.length = 32) (n : Int) : (secretS s n).1.length = 32 := by
  unfold secretS
  cases okN n
  · rfl
  · exact length_down 48 h
theorem textR_len {ow ix o q : Int} {pt : List UInt8} {l : List PenM} (hp : pt.length = 32) (hl : ∀ p ∈ l, p.ok) : (textR ow ix pt o q l).1.length ≤ 1000000 := by
  unfold textR
  split
  · simp
  · cases hs : soundP o q l with
    | false => simp
    | true =>
      have h1 := soundP_length hs
      have h2 : ∀ m : List PenM, (∀ p ∈ m, p.ok) → (m.flatMap PenM.bytes).length = 49 * m.length := by
        intro m hm
        induction m with
        | nil => rfl
        | cons p m ih => rw [List.flatMap_cons, List.length_append, PenM.length_bytes (hm p (by simp)), ih (fun p hp => hm p (by simp [hp])), List.length_cons]; omega
      simp only [cond_true, textB, List.length_append, length_be, hp, h2 l hl]
      omega
def foldF (f : StF) (ca cb : Int) : FoldM := foldS f.s.bo f.s.bp f.o f.p ca cb
theorem foldF_ok {G : Heap} {f : StF} {vo vp vh : AVal} (h : StIn G f vo vp vh) (ca cb : Int) : ∀ p ∈ (foldF f ca cb).l, p.ok := foldS_ok h.oko h.okp
theorem foldF_len (f : StF) (ca cb : Int) : (foldF f ca cb).l.length ≤ f.o.length + f.p.length := foldS_len _ _ _ _ _ _
def ownS (c : CfM) (f : StF) (n ca cb : Int) : List UInt8 × Bool :=
  if (secretS c.seed n).2 ≠ 0 then ([], false) else if (foldF f ca cb).e ≠ 0 then ([], false)
  else ((textR f.s.side n (sha (secretS c.seed n).1) (foldF f ca cb).o (foldF f ca cb).q (foldF f ca cb).l).1, decide ((textR f.s.side n (sha (secretS c.seed n).1) (foldF f ca cb).o (foldF f ca cb).q (foldF f ca cb).l).2 = 0))
theorem ownS_len {c : CfM} {f : StF} {n ca cb : Int} (hf : ∀ p ∈ (foldF f ca cb).l, p.ok) : (ownS c f n ca cb).1.length ≤ 1000000 := by
  unfold ownS
  split
  · simp
  · split
    · simp
    · exact textR_len (length_sha' _) hf
structure CameM where
  r : RcM
  l : List UpdM
  e : Int
def noC (e : Int) : CameM := ⟨RcM.zero, [], e⟩
def cameS (c : CfM) (f : StF) (m : MsgM) : CameM :=
  if deadS f.s = true then noC 220 else if m.kind ≠ 4 then noC 160 else if 281474976710653 < f.s.loc ∨ m.index ≠ f.s.loc + 1 then noC 90
  else if f.s.heldA = f.s.atA ∧ (f.p.length : Int) = f.s.atB then noC 8
  else if (ownS c f m.index f.s.heldA (f.p.length : Nat)).2 = false ∨ mac c.pkey (ownS c f m.index f.s.heldA (f.p.length : Nat)).1 ≠ m.hash then noC 110
  else ⟨{ RcM.zero with kind := 3, index := m.index, sig := m.hash }, f.p.drop (firstN f.p f.s.atB).length, 0⟩
def revealS (c : CfM) (n : Int) : MsgM :=
  if n < 0 ∨ 281474976710653 < n then MsgM.zero else { MsgM.zero with kind := 5, index := n, secret := (secretS c.seed n).1, hash := sha (secretS c.seed (n + 2)).1 }
def revokedS (f : StF) (m : MsgM) : RcM × Int :=
  if deadS f.s = true then noR 220 else if m.kind ≠ 5 then noR 160 else if f.s.rem = f.s.ack ∨ IntKind.i64.wrap (f.s.rem - 1) ≠ f.s.ack ∨ m.index ≠ f.s.ack then noR 90
  else if sha m.secret ≠ f.s.ptsA then noR 100 else if (putS f.h f.s.ack m.secret).2 ≠ 0 then noR 100
  else ({ RcM.zero with kind := 4, index := f.s.ack, secret := m.secret, point := m.hash }, 0)
def againS (c : CfM) (f : StF) : MsgM :=
  { MsgM.zero with kind := 4, index := f.s.rem, hash := mac c.key (textR (IntKind.i64.wrap (1 - f.s.side)) f.s.rem (if f.s.rem ≠ f.s.ack then f.s.ptsB else f.s.ptsA) (foldF f f.s.sgnA f.s.sgnB).q (foldF f f.s.sgnA f.s.sgnB).o (turnL (foldF f f.s.sgnA f.s.sgnB).l)).1 }
def StM.zero : StM := ⟨0, 0, 0, 0, 0, 0, 0, 0, 0, 0, 0, 0, 0, false, h0, h0, h0, 0, 0⟩
theorem StM.zero_ok : StM.zero.ok := ⟨i64_0, i64_0, i64_0, i64_0, i64_0, i64_0, i64_0, i64_0, i64_0, i64_0, i64_0, i64_0, i64_0, rfl, rfl, rfl, i64_0, i64_0⟩
theorem lv0 : Leaf .nilSlice ∧ Leaf .nilSlice ∧ Leaf .nilSlice := ⟨Leaf.nil, Leaf.nil, Leaf.nil⟩
theorem zSta : z_api_State = StM.zero.av .nilSlice .nilSlice .nilSlice := rfl
def startB (c : CfM) : Prop := c.side < 0 ∨ 1 < c.side ∨ c.cap < 1 ∨ right c.cap = false ∨ c.ours < 0 ∨ c.cap < c.ours
instance (c : CfM) : Decidable (startB c) := by unfold startB; infer_instance
def startS (c : CfM) : StM × Int := if startB c then (StM.zero, 1) else ({ StM.zero with side := c.side, cap := c.cap, bo := c.ours, bp := c.cap - c.ours, ptsA := c.ptsA, ptsB := c.ptsB, closed := -1 }, 0)

section
variable {F0 : List AId} {G0 G : Heap} {ps : List LP} {Q : AVal → Heap → Prop}

theorem nil_test {t : TypeId} {si : TI} {e : TypeId} (ht : T t = some si) (hd : si.desc = .slice e) {n : Nat} {v : AVal} {vs : List AVal} (h : IsSl n G v vs) : (v = .nilSlice ∧ vs = [] ∧ vbin T .eql t v .nilSlice = some (.bool true)) ∨ vbin T .eql t v .nilSlice = some (.bool false) := by
  rcases h with ⟨_, _, _, _, _, _, rfl, _⟩ | ⟨rfl, rfl⟩
  · exact .inr (by simp [vbin, veqD, ht, hd])
  · exact .inl ⟨rfl, rfl, by simp [vbin, veqD, ht, hd]⟩
theorem clone_upd.use {v : AVal} {l : List UpdM} (hl : IsSl 36 G v (l.map UpdM.av)) (hok : ∀ u ∈ l, u.ok) (hlen : l.length ≤ 1048576) (hQ : ∀ w G', Sp [] G [OwnL 36 w (l.map UpdM.av)] G' → Q w G') : ACalls P slices_Clone_escrow_api_Update_escrow_api_Update.n [v] G Q := by
  refine slices_Clone_escrow_api_Update_escrow_api_Update.sound ?_
  unfold slices_Clone_escrow_api_Update_escrow_api_Update.S
  rcases nil_test T_sl_api_Update rfl hl with ⟨rfl, h2, h3⟩ | h3
  · refine wv_of h3 ?_
    rw [brB_true]
    have s := (Sp.nil G).nilL 36
    rw [← h2] at s
    exact hQ _ _ s
  · refine wv_of h3 ?_
    rw [brB_false]
    refine buildL (T := T) (ts := t_sl_api_Update) (e := t_api_Update) (si := ti_sl_api_Update) (ie := ti_api_Update) (n := 0) (l := []) T_sl_api_Update rfl T_api_Update rfl rfl rfl rfl (by simp) (by decide) (Sp.nil G) fun v2 G3 s3 => ?_
    refine growL (T := T) (ts := t_sl_api_Update) (e := t_api_Update) (si := ti_sl_api_Update) (ie := ti_api_Update) (tx := t_sl_api_Update) (xi := ti_sl_api_Update) (i := 0) (vs := []) (xs := l.map UpdM.av) T_sl_api_Update rfl T_api_Update rfl (by decide) T_sl_api_Update (.inr ⟨_, rfl⟩) s3 rfl (hl.ch' s3.ch).elems (upds_uni hok).1 (upds_uni hok).2 (by rw [show ti_api_Update.bytes = 72 from rfl, List.length_map]; simp; omega) fun w G5 s5 => ?_
    exact hQ _ _ s5
theorem clone_slot.use {v : AVal} {l : List SlotM} (hl : IsSl 34 G v (l.map SlotM.av)) (hok : ∀ u ∈ l, u.ok) (hlen : l.length * 48 ≤ 140737488351232) (hQ : ∀ w G', Sp [] G [OwnL 34 w (l.map SlotM.av)] G' → Q w G') : ACalls P slices_Clone_escrow_api_Slot_escrow_api_Slot.n [v] G Q := by
  refine slices_Clone_escrow_api_Slot_escrow_api_Slot.sound ?_
  unfold slices_Clone_escrow_api_Slot_escrow_api_Slot.S
  rcases nil_test T_sl_api_Slot rfl hl with ⟨rfl, h2, h3⟩ | h3
  · refine wv_of h3 ?_
    rw [brB_true]
    have s := (Sp.nil G).nilL 34
    rw [← h2] at s
    exact hQ _ _ s
  · refine wv_of h3 ?_
    rw [brB_false]
    refine buildL (T := T) (ts := t_sl_api_Slot) (e := t_api_Slot) (si := ti_sl_api_Slot) (ie := ti_api_Slot) (n := 0) (l := []) T_sl_api_Slot rfl T_api_Slot rfl rfl rfl rfl (by simp) (by decide) (Sp.nil G) fun v2 G3 s3 => ?_
    refine growL (T := T) (ts := t_sl_api_Slot) (e := t_api_Slot) (si := ti_sl_api_Slot) (ie := ti_api_Slot) (tx := t_sl_api_Slot) (xi := ti_sl_api_Slot) (i := 0) (vs := []) (xs := l.map SlotM.av) T_sl_api_Slot rfl T_api_Slot rfl (by decide) T_sl_api_Slot (.inr ⟨_, rfl⟩) s3 rfl (hl.ch' s3.ch).elems (uni_slots hok) (okvs_slots l) (by rw [show ti_api_Slot.bytes = 48 from rfl, List.length_map]; simp; omega) fun w G5 s5 => ?_
    exact hQ _ _ s5

set_option maxHeartbeats 2000000 in
theorem dance_own.use {f : StF} {c : CfM} {n ca cb : Int} {vo vp vh : AVal} (hS : StIn G f vo vp vh) (hc : c.ok) (hQ : ∀ G', Ch [] G [] G' → Q (.tuple [.str (ownS c f n ca cb).1, .bool (ownS c f n ca cb).2]) G') : ACalls P dance_own.n [c.av, f.s.av vo vp vh, .int .i64 n, pairW ca cb] G Q := by
  have ho := hS.ok
  have hl := hS.lv
  have hlo := hS.lo
  have hlp := hS.lp
  refine dance_own.sound ?_
  unfold dance_own.S
  unfold ownS at hQ
  intro i1 f1
  have s1 := (Sp.nil G).row f1 c.av
  intro i3 f3
  have s3 := s1.row f3 (f.s.av vo vp vh)
  intro i5 f5
  have s5 := s3.row f5 (pairW ca cb)
  revert s5
  generalize Heap.upd _ i5 _ = G6
  intro s5
  refine wv_of (Cf.ld_seed (RowL.own (i := 2) s5 rfl) hc) ?_
  refine seed_Secret.use hc.seed fun G9 c9 => ?_
  have s9 := s5.tmp c9
  have hxl := secretS_len hc.seed n
  obtain ⟨X, hX⟩ : ∃ X, X = secretS c.seed n := ⟨_, rfl⟩
  rw [← hX] at hQ hxl ⊢
  refine wv_of (hi0 _) ?_
  refine wv_of (hi1 _) ?_
  refine newHash s9 hxl fun i12 G14 s14 => ?_
  rw [vbin_neq, wv_some, brB_ndec]
  refine ⟨fun h1 => ?_, fun h1 => ?_⟩
  · rw [if_pos h1] at hQ
    exact hQ _ s14.ch
  rw [if_neg (fun hh => hh h1)] at hQ
  have hg := RowL.own (i := 2) s14 rfl
  refine wv_of (St.ld_bo hg ho hl) ?_
  refine wv_of (St.ld_bp hg ho hl) ?_
  refine wv_of (St.ld_ours hg ho hl) ?_
  refine wv_of (St.ld_peers hg ho hl) ?_
  refine wv_of (whole_load T_api_Counts (RowL.own (i := 1) s14 rfl) rfl) ?_
  refine ledger_Fold.use (hS.o.mv s14.ch) (hS.p.mv s14.ch) hS.oko hS.okp hS.lo hS.lp fun x G22 t22 => ?_
  have hFok := foldF_ok hS ca cb
  have hFlen := foldF_len f ca cb
  unfold foldF at hQ hFok hFlen
  obtain ⟨F, hF⟩ : ∃ F, F = foldS f.s.bo f.s.bp f.o f.p ca cb := ⟨_, rfl⟩
  rw [← hF] at hQ hFok hFlen t22 ⊢
  obtain ⟨F22, o22, c22⟩ := t22.out
  have s22 := s14.new o22 c22
  have lx := (OwnL.own (i := 0) s22 rfl).leaf
  refine wv_of (tv0 _ _) ?_
  refine wv_of (tv1 _ _) ?_
  obtain ⟨w1, w2, w3⟩ := led_whole (o := F.o) (q := F.q) lx
  refine newVal s22 T_api_Ledger w1 (by rw [w2]; rfl) w3 fun i25 G27 s27 => ?_
  rw [vbin_neq, wv_some, brB_ndec]
  refine ⟨fun h2 => ?_, fun h2 => ?_⟩
  · rw [if_pos h2] at hQ
    exact hQ _ s27.ch
  rw [if_neg (fun hh => hh h2)] at hQ
  refine wv_of (St.ld_side (RowL.own (i := 4) s27 rfl) ho hl) ?_
  refine wv_of (load_hash hxl (RowL.own (i := 2) s27 rfl)) ?_
  refine wv_of (led_load (i := 0) s27 rfl lx).2.2.2 ?_
  refine seed_Point.use hxl fun G33 c33 => ?_
  have s33 := s27.tmp c33
  refine ⟨⟨(led_load (i := 0) s33 rfl lx).2.2.2, St.ld_side (RowL.own (i := 4) s33 rfl) ho hl, trivial⟩, ?_⟩
  refine commit_Text.use (length_sha' _) (OwnL.own (i := 1) s33 rfl).is hFok (by omega) fun G35 c35 => ?_
  have s35 := s33.tmp c35
  refine wv_of (tv0 _ _) ?_
  refine wv_of (tv1 _ _) ?_
  rw [vbin_eql, wv_some]
  exact hQ _ s35.ch

theorem build_came {x : Int} {h : List UInt8} {w : AVal} (hl : h.length = 32) (hw : Leaf w) : vbuild T t_api_Record [(0, .int .i64 3), (3, .int .i64 x), (2, w), (5, .agg (h.map u8v))] = some (({ RcM.zero with kind := 3, index := x, sig := h } : RcM).av w) := by
  refine build_rc (fun p hp => ?_) rfl
  simp only [List.mem_cons, List.not_mem_nil, or_false] at hp
  rcases hp with rfl | rfl | rfl | rfl
  · rfl
  · rfl
  · show some 1 = some (Esc.sz w)
    rw [hw.1]
  · show some (Esc.sz (.agg (h0.map u8v))) = some (Esc.sz (.agg (h.map u8v)))
    rw [Esc.sz, Esc.sz, szh hl, szh h0_len]

set_option maxHeartbeats 4000000 in
theorem dance_Came.use {f : StF} {c : CfM} {m : MsgM} {vo vp vh : AVal} (hS : StIn G f vo vp vh) (hc : c.ok) (hm : m.ok)
    (hQ : ∀ w G', Sp [] G [OwnL 36 w ((cameS c f m).l.map UpdM.av)] G' → Q (.tuple [(cameS c f m).r.av w, .int .i64 (cameS c f m).e]) G') : ACalls P dance_Came.n [c.av, f.s.av vo vp vh, m.av] G Q := by
  have ho := hS.ok
  have hl := hS.lv
  have hlo := hS.lo
  have hlp := hS.lp
  refine dance_Came.sound ?_
  unfold dance_Came.S
  rw [zRec]
  obtain ⟨R, hR⟩ : ∃ R, R = cameS c f m := ⟨_, rfl⟩
  rw [← hR] at hQ
  unfold cameS at hR
  intro i1 f1
  have s1 := (Sp.nil G).row f1 c.av
  intro i3 f3
  have s3 := s1.row f3 (f.s.av vo vp vh)
  intro i5 f5
  have s5 := s3.row f5 m.av
  intro i7 f7
  have s7 := s5.row f7 (RcM.zero.av .nilSlice)
  revert s7
  generalize Heap.upd _ i7 _ = G8
  intro s7
  have hg := RowL.own (i := 2) s7 rfl
  refine wv_of (St.ld_heldA hg ho hl) ?_
  refine wv_of (St.ld_peers hg ho hl) ?_
  refine wv_of (upd_len (hS.p.isSl.ch' s7.ch)) ?_
  refine wv_of (v := pairW f.s.heldA (f.p.length : Nat)) rfl ?_
  refine newVal (c := pairW f.s.heldA (f.p.length : Nat)) s7 T_api_Counts rfl rfl rfl fun i13 G15 s15 => ?_
  refine wv_of (St.ld (RowL.own (i := 3) s15 rfl) ho hl) ?_
  refine dance_dead.use (hS.mv s15.ch) fun G18 c18 => ?_
  have s18 := s15.tmp c18
  have s18 : Sp [] G [RowL i13 (pairW f.s.heldA (f.p.length : Nat)), RowL i7 (RcM.zero.av .nilSlice), RowL i5 m.av, RowL i3 (f.s.av vo vp vh), RowL i1 c.av] G18 := s18
  have no : ∀ {e : Int} {G2 : Heap}, Sp [] G [RowL i13 (pairW f.s.heldA (f.p.length : Nat)), RowL i7 (RcM.zero.av .nilSlice), RowL i5 m.av, RowL i3 (f.s.av vo vp vh), RowL i1 c.av] G2 → R = noC e →
      wv (vbuild T t_api_Record []) fun v17 => wg (vstore T G2 t_api_Record (.ptr i7 [] 0) v17) fun G18 => wv (vload T G18 t_api_Record (.ptr i7 [] 0)) fun v19 => Q (.tuple [v19, .int .i64 e]) G18 := by
    intro e G2 s2 he
    refine rc_no (j := 1) s2 rfl RcM.zero_ok Leaf.nil fun G' s' => ?_
    have := hQ .nilSlice G'
    rw [he] at this
    exact this (((Sp.nil G).tmp s'.ch).nilL 36)
  rw [brB_bool]
  refine ⟨fun hd => no s18 (by rw [hR, if_pos hd]), fun hd => ?_⟩
  rw [if_neg (by rw [hd]; decide)] at hR
  obtain ⟨m0, _, _, m3, _, m5, _, _, _⟩ := msg_load (i := 2) s18 rfl hm
  refine wv_of m0 ?_
  rw [vbin_neq, wv_some, brB_ndec]
  refine ⟨fun h1 => no s18 (by rw [hR, if_pos h1]), fun h1 => ?_⟩
  rw [if_neg (fun hh => hh h1)] at hR
  have hg := RowL.own (i := 3) s18 rfl
  intro J44
  have bad : (281474976710653 < f.s.loc ∨ m.index ≠ f.s.loc + 1) → J44 (.bool true) G18 := by
    intro hb
    simp -zeta only [J44, brB_true]
    exact no s18 (by rw [hR, if_pos hb])
  have good : ¬ (281474976710653 < f.s.loc ∨ m.index ≠ f.s.loc + 1) → J44 (.bool false) G18 := by
    intro hb
    rw [if_neg hb] at hR
    simp -zeta only [J44, brB_false]
    refine wv_of (whole_load T_api_Counts (RowL.own (i := 0) s18 rfl) rfl) ?_
    refine wv_of (St.ld_at hg ho hl) ?_
    rw [pair_eq (t := t_api_Counts), wv_some, brB_dec]
    refine ⟨fun h2 => no s18 (by rw [hR, if_pos h2]), fun h2 => ?_⟩
    rw [if_neg h2] at hR
    refine wv_of (Cf.ld (RowL.own (i := 4) s18 rfl) hc) ?_
    refine wv_of (St.ld hg ho hl) ?_
    refine wv_of m3 ?_
    refine wv_of (whole_load T_api_Counts (RowL.own (i := 0) s18 rfl) rfl) ?_
    refine dance_own.use (hS.mv s18.ch) hc fun G50 c50 => ?_
    have s50 := s18.tmp c50
    have hol := ownS_len (c := c) (n := m.index) (foldF_ok hS f.s.heldA (f.p.length : Nat))
    obtain ⟨W, hW⟩ : ∃ W, W = ownS c f m.index f.s.heldA (f.p.length : Nat) := ⟨_, rfl⟩
    rw [← hW] at hR hol ⊢
    refine wv_of (tv0 _ _) ?_
    refine wv_of (tv1 _ _) ?_
    intro J78
    have bad2 : ∀ G2, Sp [] G [RowL i13 (pairW f.s.heldA (f.p.length : Nat)), RowL i7 (RcM.zero.av .nilSlice), RowL i5 m.av, RowL i3 (f.s.av vo vp vh), RowL i1 c.av] G2 → (W.2 = false ∨ mac c.pkey W.1 ≠ m.hash) → J78 (.bool true) G2 := by
      intro G2 s2 hb
      simp -zeta only [J78, brB_true]
      exact no s2 (by rw [hR, if_pos hb])
    have good2 : ∀ G2, Sp [] G [RowL i13 (pairW f.s.heldA (f.p.length : Nat)), RowL i7 (RcM.zero.av .nilSlice), RowL i5 m.av, RowL i3 (f.s.av vo vp vh), RowL i1 c.av] G2 → ¬ (W.2 = false ∨ mac c.pkey W.1 ≠ m.hash) → J78 (.bool false) G2 := by
      intro G59 s59 hb
      rw [if_neg hb] at hR
      simp -zeta only [J78, brB_false]
      have hg := RowL.own (i := 3) s59 rfl
      refine wv_of (St.ld_peers hg ho hl) ?_
      refine wv_of (St.ld_atB hg ho hl) ?_
      refine dance_first.use (hS.p.mv s59.ch) hS.lp fun w hw => ?_
      have hfl := firstN_len f.p f.s.atB
      refine wv_of (upd_len hw.isSl) ?_
      obtain ⟨_, _, _, m3, _, m5, _, _, _⟩ := msg_load (i := 2) s59 rfl hm
      refine wv_of m3 ?_
      refine wv_of (St.ld_peers hg ho hl) ?_
      obtain ⟨w2, e1, e2⟩ := CapSl.drop (ie := ti_api_Update) (k := .i64) (m := (firstN f.p f.s.atB).length) T_sl_api_Update rfl T_api_Update (hS.p.mv s59.ch) (by rw [List.length_map]; exact hfl)
      rw [← List.map_drop] at e2
      refine wv_of e1 ?_
      refine wv_of m5 ?_
      refine clone_upd.use e2 (fun u hu => hS.okp u (List.mem_of_mem_drop hu)) (by rw [List.length_drop]; omega) fun w3 G74 t74 => ?_
      obtain ⟨F74, o74, c74⟩ := t74.out
      have s74 := s59.new o74 c74
      obtain ⟨_, _, _, m3, _, m5, _, _, _⟩ := msg_load (i := 3) s74 rfl hm
      refine ⟨⟨m5, m3, trivial⟩, ?_⟩
      have lw : Leaf w3 := (OwnL.own (i := 0) s74 rfl).leaf
      have hok : ({ RcM.zero with kind := 3, index := m.index, sig := m.hash } : RcM).ok := ⟨i64_n 3 (by decide) (by decide), UpdM.zero_ok, hm.index, i64_0, i64_0, hm.hash, rfl, rfl, i64_0⟩
      refine wv_of (build_came hm.hash lw) ?_
      refine Rc.st (i := 2) s74 rfl RcM.zero_ok Leaf.nil hok lw fun G76 s76 => ?_
      refine wv_of (Rc.ld (RowL.own (i := 2) s76 rfl) hok lw) ?_
      have := hQ w3 G76
      rw [hR] at this
      exact this ((((s76.erase 1).erase 1).erase 1).erase 1 |>.erase 1)
    rw [vun_not, wv_some]
    cases hW2 : W.2 with
    | false =>
      rw [Bool.not_false, brB_true]
      exact bad2 _ s50 (.inl hW2)
    | true =>
      rw [Bool.not_true, brB_false]
      refine wv_of (Cf.ld_pkey (RowL.own (i := 4) s50 rfl) hc) ?_
      obtain ⟨_, _, _, _, _, m5, _, _, _⟩ := msg_load (i := 2) s50 rfl hm
      refine wv_of m5 ?_
      refine seal_Right.use hc.pkey hm.hash (by omega) fun G57 c57 => ?_
      have s57 := s50.tmp c57
      rw [vun_not, wv_some]
      by_cases h3 : mac c.pkey W.1 = m.hash
      · rw [decide_eq_true h3]
        exact good2 _ s57 (by rw [hW2]; simp [h3])
      · rw [decide_eq_false h3]
        exact bad2 _ s57 (.inr h3)
  refine wv_of (St.ld_loc hg ho hl) ?_
  rw [vbin_gtr, wv_some, brB_dec]
  refine ⟨fun h2 => bad (.inl h2), fun h2 => ?_⟩
  refine wv_of m3 ?_
  refine wv_of (St.ld_loc hg ho hl) ?_
  have hloc := ho.loc
  rw [vbin_add, i64_in (by have := hloc.1; omega) (by omega), wv_some, vbin_neq, wv_some]
  by_cases h3 : m.index = f.s.loc + 1
  · rw [decide_eq_true h3]
    exact good (by rintro (h | h); exact h2 h; exact h h3)
  · rw [decide_eq_false h3]
    exact bad (.inr h3)

theorem buildMsgP {parts : List (Nat × AVal)} {r : MsgM} (hs : ∀ p ∈ parts, MsgM.zero.cs[p.1]?.map Esc.sz = some (Esc.sz p.2)) (he : setParts MsgM.zero.cs parts = r.cs) : vbuild T t_api_Message parts = some r.av := by
  refine (build_struct (zs := MsgM.zero.cs) T_api_Message rfl rfl rfl (plOk_of rfl) hs).trans ?_
  rw [he]; rfl
theorem szHash {h : List UInt8} (hl : h.length = 32) : some (Esc.sz (.agg (h0.map u8v))) = some (Esc.sz (.agg (h.map u8v))) := by rw [Esc.sz, Esc.sz, szh hl, szh h0_len]

theorem build_again {x : Int} {h : List UInt8} (hl : h.length = 32) : vbuild T t_api_Message [(0, .int .i64 4), (3, .int .i64 x), (5, .agg (h.map u8v))] = some (MsgM.av { MsgM.zero with kind := 4, index := x, hash := h }) := by
  refine buildMsgP (fun p hp => ?_) rfl
  simp only [List.mem_cons, List.not_mem_nil, or_false] at hp
  rcases hp with rfl | rfl | rfl
  · rfl
  · rfl
  · exact szHash hl

set_option maxHeartbeats 2000000 in
theorem dance_Reveal.use {c : CfM} {n : Int} (hc : c.ok) (hQ : ∀ G', Ch [] G [] G' → Q (revealS c n).av G') : ACalls P dance_Reveal.n [c.av, .int .i64 n] G Q := by
  refine dance_Reveal.sound ?_
  unfold dance_Reveal.S
  rw [zMsg]
  unfold revealS at hQ
  intro i1 f1
  have s1 := (Sp.nil G).row f1 c.av
  intro i3 f3
  have s3 := s1.row f3 MsgM.zero.av
  revert s3
  generalize Heap.upd _ i3 _ = G4
  intro s3 J36
  have bad : (n < 0 ∨ 281474976710653 < n) → J36 (.bool true) G4 := by
    intro hb
    rw [if_pos hb] at hQ
    simp -zeta only [J36, brB_true]
    refine wv_of (v := MsgM.zero.av) rfl ?_
    refine msg_store (i := 0) s3 rfl MsgM.zero_ok MsgM.zero_ok fun G10 s10 => ?_
    refine wv_of (whole_load T_api_Message (RowL.own (i := 0) s10 rfl) (MsgM.fits MsgM.zero_ok)) ?_
    exact hQ _ s10.ch
  have good : ¬ (n < 0 ∨ 281474976710653 < n) → J36 (.bool false) G4 := by
    intro hb
    rw [if_neg hb] at hQ
    simp -zeta only [J36, brB_false]
    have hx := secretS_len hc.seed n
    have hy := secretS_len hc.seed (n + 2)
    refine wv_of (Cf.ld_seed (RowL.own (i := 1) s3 rfl) hc) ?_
    refine seed_Secret.use hc.seed fun G14 c14 => ?_
    have s14 := s3.tmp c14
    refine wv_of (hi0 _) ?_
    refine wv_of (hi1 _) ?_
    refine newHash s14 hx fun i17 G19 s19 => ?_
    refine wv_of (Cf.ld_seed (RowL.own (i := 2) s19 rfl) hc) ?_
    rw [vbin_add, i64_in (by omega) (by omega), wv_some]
    refine seed_Secret.use hc.seed fun G23 c23 => ?_
    have s23 := s19.tmp c23
    refine wv_of (hi0 _) ?_
    refine wv_of (hi1 _) ?_
    refine newHash s23 hy fun i26 G28 s28 => ?_
    refine wv_of (load_hash hx (RowL.own (i := 1) s28 rfl)) ?_
    refine wv_of (load_hash hy (RowL.own (i := 0) s28 rfl)) ?_
    refine seed_Point.use hy fun G32 c32 => ?_
    have s32 := s28.tmp c32
    refine ⟨⟨load_hash hx (RowL.own (i := 1) s32 rfl), trivial⟩, ?_⟩
    have hz : (sha (secretS c.seed (n + 2)).1).length = 32 := length_sha' _
    have hok : ({ MsgM.zero with kind := 5, index := n, secret := (secretS c.seed n).1, hash := sha (secretS c.seed (n + 2)).1 } : MsgM).ok := ⟨i64_n 5 (by decide) (by decide), i64_0, i64_0, i64_n n (by omega) (by omega), i64_0, hz, hx, by simp [MsgM.zero]⟩
    refine wv_of (buildMsgP (r := { MsgM.zero with kind := 5, index := n, secret := (secretS c.seed n).1, hash := sha (secretS c.seed (n + 2)).1 }) (fun p hp => ?_) rfl) ?_
    · simp only [List.mem_cons, List.not_mem_nil, or_false] at hp
      rcases hp with rfl | rfl | rfl | rfl
      · rfl
      · rfl
      · exact szHash hx
      · exact szHash hz
    refine msg_store (i := 2) s32 rfl MsgM.zero_ok hok fun G34 s34 => ?_
    refine wv_of (whole_load T_api_Message (RowL.own (i := 2) s34 rfl) (MsgM.fits hok)) ?_
    exact hQ _ s34.ch
  rw [vbin_lss, wv_some, brB_dec]
  refine ⟨fun h1 => bad (.inl h1), fun h1 => ?_⟩
  rw [vbin_gtr, wv_some]
  by_cases h2 : 281474976710653 < n
  · rw [decide_eq_true h2]
    exact bad (.inr h2)
  · rw [decide_eq_false h2]
    exact good (by omega)

set_option maxHeartbeats 4000000 in
theorem dance_Again.use {f : StF} {c : CfM} {vo vp vh : AVal} (hS : StIn G f vo vp vh) (hc : c.ok) (hQ : ∀ G', Ch [] G [] G' → Q (againS c f).av G') : ACalls P dance_Again.n [c.av, f.s.av vo vp vh] G Q := by
  have ho := hS.ok
  have hl := hS.lv
  have hlo := hS.lo
  have hlp := hS.lp
  refine dance_Again.sound ?_
  unfold dance_Again.S
  rw [zMsg]
  unfold againS at hQ
  intro i1 f1
  have s1 := (Sp.nil G).row f1 c.av
  intro i3 f3
  have s3 := s1.row f3 (f.s.av vo vp vh)
  intro i5 f5
  have s5 := s3.row f5 MsgM.zero.av
  revert s5
  generalize Heap.upd _ i5 _ = G6
  intro s5
  have hg := RowL.own (i := 1) s5 rfl
  refine wv_of (v := .ptr i3 [13, 0] 16) rfl ?_
  refine wv_of (St.ld_ptsA hg ho hl) ?_
  refine newHash s5 ho.ptsA fun i9 G11 s11 => ?_
  have hg := RowL.own (i := 2) s11 rfl
  refine wv_of (St.ld_rem hg ho hl) ?_
  refine wv_of (St.ld_ack hg ho hl) ?_
  rw [vbin_neq, wv_some]
  obtain ⟨pt, hpt⟩ : ∃ pt, pt = if f.s.rem ≠ f.s.ack then f.s.ptsB else f.s.ptsA := ⟨_, rfl⟩
  rw [← hpt] at hQ
  have hp32 : pt.length = 32 := by
    rw [hpt]; split
    · exact ho.ptsB
    · exact ho.ptsA
  intro J49
  have go : ∀ G2, Sp [] G [RowL i9 (.agg (pt.map u8v)), RowL i5 MsgM.zero.av, RowL i3 (f.s.av vo vp vh), RowL i1 c.av] G2 → J49 G2 := by
    intro G18 s18
    simp -zeta only [J49]
    have hg := RowL.own (i := 2) s18 rfl
    refine wv_of (St.ld_bo hg ho hl) ?_
    refine wv_of (St.ld_bp hg ho hl) ?_
    refine wv_of (St.ld_ours hg ho hl) ?_
    refine wv_of (St.ld_peers hg ho hl) ?_
    refine wv_of (St.ld_sgn hg ho hl) ?_
    refine ledger_Fold.use (hS.o.mv s18.ch) (hS.p.mv s18.ch) hS.oko hS.okp hS.lo hS.lp fun x G25 t25 => ?_
    have hFok := foldF_ok hS f.s.sgnA f.s.sgnB
    have hFlen := foldF_len f f.s.sgnA f.s.sgnB
    unfold foldF at hQ hFok hFlen
    obtain ⟨F, hF⟩ : ∃ F, F = foldS f.s.bo f.s.bp f.o f.p f.s.sgnA f.s.sgnB := ⟨_, rfl⟩
    rw [← hF] at hQ hFok hFlen t25 ⊢
    obtain ⟨F25, o25, c25⟩ := t25.out
    have s25 := s18.new o25 c25
    have lx := (OwnL.own (i := 0) s25 rfl).leaf
    refine wv_of (tv0 _ _) ?_
    refine wv_of (tv1 _ _) ?_
    obtain ⟨w1, w2, w3⟩ := led_whole (o := F.o) (q := F.q) lx
    refine newVal s25 T_api_Ledger w1 (by rw [w2]; rfl) w3 fun i28 G30 s30 => ?_
    have hg := RowL.own (i := 4) s30 rfl
    refine wv_of (St.ld_side hg ho hl) ?_
    rw [vbin_sub, wv_some]
    refine wv_of (St.ld_rem hg ho hl) ?_
    refine wv_of (load_hash hp32 (RowL.own (i := 2) s30 rfl)) ?_
    refine wv_of (led_load (i := 0) s30 rfl lx).2.2.2 ?_
    refine commit_Turn.use (OwnL.own (i := 1) s30 rfl).is hFok (by omega) fun y G37 t37 => ?_
    obtain ⟨F37, o37, c37⟩ := t37.out
    have s37 := s30.new o37 c37
    have hg := RowL.own (i := 5) s37 rfl
    refine ⟨⟨load_hash hp32 (RowL.own (i := 3) s37 rfl), St.ld_rem hg ho hl, St.ld_side hg ho hl, trivial⟩, ?_⟩
    have hTok := turnL_ok hFok
    refine commit_Text.use hp32 (OwnL.own (i := 0) s37 rfl).is hTok (by rw [length_turnL]; omega) fun G39 c39 => ?_
    have s39 := s37.tmp c39
    have htl := textR_len (ow := IntKind.i64.wrap (1 - f.s.side)) (ix := f.s.rem) (o := F.q) (q := F.o) hp32 hTok
    obtain ⟨W, hW⟩ : ∃ W, W = textR (IntKind.i64.wrap (1 - f.s.side)) f.s.rem pt F.q F.o (turnL F.l) := ⟨_, rfl⟩
    rw [← hW] at hQ htl ⊢
    refine wv_of (tv0 _ _) ?_
    refine wv_of (tv1 _ _) ?_
    have hg := RowL.own (i := 5) s39 rfl
    refine wv_of (St.ld_rem hg ho hl) ?_
    refine wv_of (Cf.ld_key (RowL.own (i := 6) s39 rfl) hc) ?_
    refine seal_Sign.use hc.key (by omega) fun G45 c45 => ?_
    have s45 := s39.tmp c45
    refine ⟨⟨St.ld_rem (RowL.own (i := 5) s45 rfl) ho hl, trivial⟩, ?_⟩
    have hz : (mac c.key W.1).length = 32 := length_sha _
    revert hQ hz
    generalize mac c.key W.1 = Z
    intro hQ hz
    have hok : ({ MsgM.zero with kind := 4, index := f.s.rem, hash := Z } : MsgM).ok := ⟨i64_n 4 (by decide) (by decide), i64_0, i64_0, ho.rem, i64_0, hz, rfl, by simp [MsgM.zero]⟩
    refine wv_of (build_again hz) ?_
    refine msg_store (i := 4) s45 rfl MsgM.zero_ok hok fun G47 s47 => ?_
    refine wv_of (whole_load T_api_Message (RowL.own (i := 4) s47 rfl) (MsgM.fits hok)) ?_
    exact hQ _ s47.ch
  by_cases h1 : f.s.rem = f.s.ack
  · rw [if_neg (fun hh => hh h1)] at hpt
    rw [decide_eq_true h1, Bool.not_true, brB_false]
    rw [← hpt] at s11
    exact go _ s11
  · rw [if_pos h1] at hpt
    rw [decide_eq_false h1, Bool.not_false, brB_true]
    refine wv_of (v := .ptr i3 [13, 1] 48) rfl ?_
    refine wv_of (St.ld_ptsB hg ho hl) ?_
    refine hash_store (i := 0) s11 rfl ho.ptsA ho.ptsB fun G17 s17 => ?_
    rw [← hpt] at s17
    exact go _ s17

theorem build_rev {x : Int} {a b : List UInt8} (ha : a.length = 32) (hb : b.length = 32) : vbuild T t_api_Record [(0, .int .i64 4), (3, .int .i64 x), (6, .agg (a.map u8v)), (7, .agg (b.map u8v))] = some (({ RcM.zero with kind := 4, index := x, secret := a, point := b } : RcM).av .nilSlice) := by
  refine build_rc (fun p hp => ?_) rfl
  simp only [List.mem_cons, List.not_mem_nil, or_false] at hp
  rcases hp with rfl | rfl | rfl | rfl
  · rfl
  · rfl
  · exact szHash ha
  · exact szHash hb

set_option maxHeartbeats 4000000 in
theorem dance_Revoked.use {f : StF} {m : MsgM} {vo vp vh : AVal} (hT : Tab G) (hS : StIn G f vo vp vh) (hm : m.ok) (hQ : ∀ G', Ch [] G [] G' → Q (tupR (revokedS f m)) G') : ACalls P dance_Revoked.n [f.s.av vo vp vh, m.av] G Q := by
  have ho := hS.ok
  have hl := hS.lv
  refine dance_Revoked.sound ?_
  unfold dance_Revoked.S
  rw [zRec]
  unfold revokedS at hQ
  intro i1 f1
  have s1 := (Sp.nil G).row f1 (f.s.av vo vp vh)
  intro i3 f3
  have s3 := s1.row f3 m.av
  intro i5 f5
  have s5 := s3.row f5 (RcM.zero.av .nilSlice)
  revert s5
  generalize Heap.upd _ i5 _ = G6
  intro s5
  refine wv_of (St.ld (RowL.own (i := 2) s5 rfl) ho hl) ?_
  refine dance_dead.use (hS.mv s5.ch) fun G9 c9 => ?_
  have s9 := s5.tmp c9
  have s9 : Sp [] G [RowL i5 (RcM.zero.av .nilSlice), RowL i3 m.av, RowL i1 (f.s.av vo vp vh)] G9 := s9
  rw [brB_bool]
  refine ⟨fun hd => ?_, fun hd => ?_⟩
  · rw [if_pos hd] at hQ
    exact rc_no (j := 0) s9 rfl RcM.zero_ok Leaf.nil fun G' s' => hQ G' s'.ch
  rw [if_neg (by rw [hd]; decide)] at hQ
  obtain ⟨m0, _, _, m3, _, _, _, _, _⟩ := msg_load (i := 1) s9 rfl hm
  refine wv_of m0 ?_
  rw [vbin_neq, wv_some, brB_ndec]
  refine ⟨fun h1 => ?_, fun h1 => ?_⟩
  · rw [if_pos h1] at hQ
    exact rc_no (j := 0) s9 rfl RcM.zero_ok Leaf.nil fun G' s' => hQ G' s'.ch
  rw [if_neg (fun hh => hh h1)] at hQ
  have hg := RowL.own (i := 2) s9 rfl
  intro J42
  have bad : (f.s.rem = f.s.ack ∨ IntKind.i64.wrap (f.s.rem - 1) ≠ f.s.ack ∨ m.index ≠ f.s.ack) → J42 (.bool true) G9 := by
    intro hb
    rw [if_pos hb] at hQ
    simp -zeta only [J42, brB_true]
    exact rc_no (j := 0) s9 rfl RcM.zero_ok Leaf.nil fun G' s' => hQ G' s'.ch
  have good : ¬ (f.s.rem = f.s.ack ∨ IntKind.i64.wrap (f.s.rem - 1) ≠ f.s.ack ∨ m.index ≠ f.s.ack) → J42 (.bool false) G9 := by
    intro hb
    rw [if_neg hb] at hQ
    simp -zeta only [J42, brB_false]
    refine wv_of (msg_load (i := 1) s9 rfl hm).2.2.2.2.2.2.1 ?_
    refine wv_of (v := .ptr i1 [13, 0] 16) rfl ?_
    refine wv_of (St.ld_ptsA hg ho hl) ?_
    refine seed_Point.use hm.secret fun G37 c37 => ?_
    have s37 := s9.tmp c37
    have hg := RowL.own (i := 2) s37 rfl
    refine ⟨⟨St.ld_ptsA hg ho hl, trivial⟩, ?_⟩
    rw [hash_neq (length_sha' _) ho.ptsA, wv_some, brB_ndec]
    refine ⟨fun h2 => ?_, fun h2 => ?_⟩
    · rw [if_pos h2] at hQ
      exact rc_no (j := 0) s37 rfl RcM.zero_ok Leaf.nil fun G' s' => hQ G' s'.ch
    rw [if_neg (fun hh => hh h2)] at hQ
    refine wv_of (St.ld_shelf hg ho hl) ?_
    refine wv_of (St.ld_ack hg ho hl) ?_
    refine wv_of (msg_load (i := 1) s37 rfl hm).2.2.2.2.2.2.1 ?_
    refine shelf_Put.use (hT.mono s37.ro) (hS.h.isSl.ch' s37.ch) hS.okh hS.lh hm.secret fun w G47 t47 => ?_
    have s47 := s37.tmp t47.ch
    refine wv_of (tv0 _ _) ?_
    refine wv_of (tv1 _ _) ?_
    rw [vbin_neq, wv_some, brB_ndec]
    refine ⟨fun h3 => ?_, fun h3 => ?_⟩
    · rw [if_pos h3] at hQ
      exact rc_no (j := 0) s47 rfl RcM.zero_ok Leaf.nil fun G' s' => hQ G' s'.ch
    rw [if_neg (fun hh => hh h3)] at hQ
    have hg := RowL.own (i := 2) s47 rfl
    obtain ⟨_, _, _, _, _, m5, m6, _, _⟩ := msg_load (i := 1) s47 rfl hm
    refine wv_of (St.ld_ack hg ho hl) ?_
    refine wv_of m6 ?_
    refine wv_of m5 ?_
    have hok : ({ RcM.zero with kind := 4, index := f.s.ack, secret := m.secret, point := m.hash } : RcM).ok := ⟨i64_n 4 (by decide) (by decide), UpdM.zero_ok, ho.ack, i64_0, i64_0, rfl, hm.secret, hm.hash, i64_0⟩
    refine wv_of (build_rev hm.secret hm.hash) ?_
    refine Rc.st (i := 0) s47 rfl RcM.zero_ok Leaf.nil hok Leaf.nil fun G58 s58 => ?_
    refine wv_of (Rc.ld (RowL.own (i := 0) s58 rfl) hok Leaf.nil) ?_
    exact hQ _ s58.ch
  refine wv_of (St.ld_rem hg ho hl) ?_
  refine wv_of (St.ld_ack hg ho hl) ?_
  rw [vbin_eql, wv_some, brB_dec]
  refine ⟨fun h2 => bad (.inl h2), fun h2 => ?_⟩
  refine wv_of (St.ld_rem hg ho hl) ?_
  rw [vbin_sub, wv_some]
  refine wv_of (St.ld_ack hg ho hl) ?_
  rw [vbin_neq, wv_some, brB_ndec]
  refine ⟨fun h3 => bad (.inr (.inl h3)), fun h3 => ?_⟩
  refine wv_of m3 ?_
  refine wv_of (St.ld_ack hg ho hl) ?_
  rw [vbin_neq, wv_some]
  by_cases h4 : m.index = f.s.ack
  · rw [decide_eq_true h4]
    exact good (by rintro (h | h | h); exact h2 h; exact h h3; exact h h4)
  · rw [decide_eq_false h4]
    exact bad (.inr (.inr h4))

set_option maxHeartbeats 2000000 in
theorem dance_Cut.use {f : StF} {vo vp vh : AVal} (hS : StIn G f vo vp vh) (hQ : ∀ wo wp wh G', Sp [] G [OwnL 34 wh (f.h.map SlotM.av), OwnL 36 wp ((firstN f.p f.s.atB).map UpdM.av), OwnL 36 wo (f.o.map UpdM.av)] G' → Q (f.s.av wo wp wh) G') : ACalls P dance_Cut.n [f.s.av vo vp vh] G Q := by
  have ho := hS.ok
  have hl := hS.lv
  have hlp := hS.lp
  refine dance_Cut.sound ?_
  unfold dance_Cut.S
  rw [zSta]
  intro i1 f1
  have s1 := (Sp.nil G).row f1 (f.s.av vo vp vh)
  intro i3 f3
  have s3 := s1.row f3 (StM.zero.av .nilSlice .nilSlice .nilSlice)
  revert s3
  generalize Heap.upd _ i3 _ = G4
  intro s3
  have hg := RowL.own (i := 1) s3 rfl
  refine wv_of (St.ld_ours hg ho hl) ?_
  refine wv_of (St.ld_peers hg ho hl) ?_
  refine wv_of (St.ld_atB hg ho hl) ?_
  refine wv_of (St.ld_shelf hg ho hl) ?_
  refine clone_upd.use (hS.o.isSl.ch' s3.ch) hS.oko hS.lo fun wo G10 t10 => ?_
  obtain ⟨F10, o10, c10⟩ := t10.out
  have s10 := s3.new o10 c10
  have hg := RowL.own (i := 2) s10 rfl
  refine ⟨⟨St.ld_shelf hg ho hl, St.ld_atB hg ho hl, St.ld_peers hg ho hl, trivial⟩, ?_⟩
  refine dance_first.use (hS.p.mv s10.ch) hS.lp fun w hw => ?_
  refine ⟨⟨St.ld_shelf hg ho hl, trivial⟩, ?_⟩
  have hfl := firstN_len f.p f.s.atB
  refine clone_upd.use hw.isSl (firstN_ok hS.okp) (by omega) fun wp G14 t14 => ?_
  obtain ⟨F14, o14, c14⟩ := t14.out
  have s14 := s10.new o14 c14
  have hg := RowL.own (i := 3) s14 rfl
  refine ⟨⟨St.ld_shelf hg ho hl, trivial⟩, ?_⟩
  refine clone_slot.use (hS.h.isSl.ch' s14.ch) hS.okh hS.lh fun wh G16 t16 => ?_
  obtain ⟨F16, o16, c16⟩ := t16.out
  have s16 := s14.new o16 c16
  have lo : Leaf wo := (OwnL.own (i := 2) s16 rfl).leaf
  have lp : Leaf wp := (OwnL.own (i := 1) s16 rfl).leaf
  have lh : Leaf wh := (OwnL.own (i := 0) s16 rfl).leaf
  refine St.st_ours (i := 4) s16 rfl ho hl lo fun G17 s17 => ?_
  refine St.st_peers (i := 4) s17 rfl ho ⟨lo, hl.2.1, hl.2.2⟩ lp fun G18 s18 => ?_
  refine St.st_shelf (i := 4) s18 rfl ho ⟨lo, lp, hl.2.2⟩ lh fun G19 s19 => ?_
  refine wv_of (St.ld (RowL.own (i := 4) s19 rfl) ho ⟨lo, lp, lh⟩) ?_
  refine St.st (i := 3) s19 rfl StM.zero_ok lv0 ho ⟨lo, lp, lh⟩ fun G21 s21 => ?_
  refine wv_of (St.ld (RowL.own (i := 3) s21 rfl) ho ⟨lo, lp, lh⟩) ?_
  exact hQ wo wp wh G21 ((s21.erase 3).erase 3)

end

end Go.Esc.M
