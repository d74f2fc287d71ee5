/- Own work. Chapter 2: HashSums. -/
import Derived.Test.YtdegdajfcnonfaaLXf
set_option linter.unusedSimpArgs false
set_option linter.unusedVariables false
namespace Go.Esc.M
open Go Go.Esc Go.Proofs

def markS : List UInt8 := [109, 97, 114, 107]
/-- Texts, a mark, and what is behind. -/
def lentC (w : List (List UInt8)) (rest : List AVal) : List AVal := w.map .str ++ .str markS :: rest
theorem uni_lent {w : List (List UInt8)} {rest : List AVal} (h : uni 1 rest = true) : uni 1 (lentC w rest) = true := by
  simp only [uni, lentC, List.all_append, List.all_cons, Bool.and_eq_true]
  refine ⟨by simp [sz], by simp [sz], h⟩
theorem length_lent (w : List (List UInt8)) (rest : List AVal) : (lentC w rest).length = w.length + 1 + rest.length := by simp [lentC]; omega

theorem sum_strs : ∀ {xs : List (List UInt8)} {ms : List Nat}, All2 (fun (x : List UInt8) m => m = x.length + 1) xs ms → ms.sum = xs.flatten.length + xs.length
  | [], [], _ => rfl
  | x :: xs, m :: ms, h => by
    have := sum_strs h.2
    have := h.1
    simp only [List.sum_cons, List.flatten_cons, List.length_append, List.length_cons]
    omega
theorem okvs_txt : ∀ l : List (List UInt8), okvs (l.map AVal.str) = true
  | [] => rfl
  | b :: l => by simp [okvs, okv, okvs_txt l]
theorem mem_len : ∀ {l : List (List UInt8)} {x : List UInt8}, x ∈ l → x.length ≤ l.flatten.length
  | y :: l, x, h => by
    rw [List.flatten_cons, List.length_append]
    rcases List.mem_cons.1 h with rfl | h
    · omega
    · have := mem_len h
      omega
theorem flatten_x : ∀ l : List (List UInt8), (l.map (· ++ [120])).flatten.length = l.flatten.length + l.length
  | [] => rfl
  | x :: l => by
    have := flatten_x l
    simp only [List.map_cons, List.flatten_cons, List.length_append, List.length_cons, List.length_nil] at this ⊢
    omega

section
variable {F0 : List AId} {G0 G : Heap} {ps : List LP} {Q : AVal → Heap → Prop}

theorem lent_is {G : Heap} {id : AId} {w : List (List UInt8)} {rest : List AVal} {n cap : Nat} (hg : G id = some (.own (.agg (lentC w rest)))) (hu : uni 1 rest = true) (hn : n = w.length) : IsSl 1 G (.slice id [] 0 0 n cap) (w.map .str) := by
  subst hn
  have := row_first (n := 1) (cap := cap) (xs := w.map AVal.str) (ys := .str markS :: rest) hg (uni_lent hu)
  rwa [List.length_map] at this
theorem lent_cap {G : Heap} {id : AId} {w : List (List UInt8)} {rest : List AVal} {n cap : Nat} (hg : G id = some (.own (.agg (lentC w rest)))) (hu : uni 1 rest = true) (hn : n = w.length) (hc : n ≤ cap) : CapSl 1 G (.slice id [] 0 0 n cap) (w.map .str) :=
  .inl ⟨_, _, _, _, _, _, rfl, hc, (lent_is hg hu hn).elems⟩

theorem escrowlaw02_lend.use {v : AVal} {l : List (List UInt8)} (hl : RoSl 1 G v (l.map .str)) (hlen : l.length ≤ 1048576)
    (hQ : ∀ id cap rest G', cap = l.length + 1 + rest.length → uni 1 rest = true → Sp [] G [RowL id (.agg (lentC l rest))] G' → Q (.slice id [] 0 0 l.length cap) G') : ACalls P escrowlaw02_lend.n [v] G Q := by
  refine escrowlaw02_lend.sound ?_
  unfold escrowlaw02_lend.S
  have hb : ti_string.bytes = 16 := rfl
  refine growL (T := T) (ts := t_sl_string) (e := t_string) (si := ti_sl_string) (ie := ti_string) (tx := t_sl_string) (xi := ti_sl_string) (i := 0) T_sl_string rfl T_string rfl (by decide) T_sl_string (.inr ⟨_, rfl⟩) ((Sp.nil G).nilL 1) rfl hl.is.elems (by simp [uni, sz, ti_string]) ?_ ?_ fun v1 G2 s2 => ?_
  · exact okvs_txt l
  · rw [hb, List.length_map]; simp; omega
  refine growV (T := T) (ts := t_sl_string) (e := t_string) (si := ti_sl_string) (ie := ti_string) (i := 0) T_sl_string rfl T_string rfl (by decide) s2 rfl rfl rfl (by decide) ?_ fun v5 G6 s6 => ?_
  · rw [hb]; simp; omega
  have s6 : Sp [] G [OwnL 1 v5 (l.map .str ++ [.str markS])] G6 := s6
  have hlv : vlen T G6 t_sl_string v = some (.int .i64 (l.length : Nat)) := by
    rw [(hl.mono s6.ro).is.len (i := ti_sl_string) T_sl_string rfl, List.length_map]
  refine wv_of hlv ?_
  obtain ⟨id, cap, rest, rfl, hcap, hu, s⟩ := s6.ownRow (i := 0) rfl (by simp)
  have hlen' : (l.map AVal.str ++ [AVal.str markS]).length = l.length + 1 := by simp
  rw [hlen'] at hcap ⊢
  refine wv_of (slice_to T_sl_string rfl T_string rfl (by omega)) ?_
  refine hQ id cap rest G6 hcap hu ?_
  have e : lentC l rest = l.map AVal.str ++ [AVal.str markS] ++ rest := by simp [lentC]
  rw [e]
  exact s

theorem str_elem {v : AVal} {l : List (List UInt8)} (h : IsSl 1 G v (l.map .str)) {j : Nat} {s : List UInt8} (hj : l[j]? = some s) : ∃ a, viaddr T t_sl_string v (.int .i64 (j : Int)) = some a ∧ vload T G t_string a = some (.str s) :=
  h.at_ (k := .i64) (i := ti_sl_string) (ie := ti_string) T_sl_string rfl T_string (by rw [List.getElem?_map, hj]; rfl) rfl
theorem strs_len {v : AVal} {l : List (List UInt8)} (h : IsSl 1 G v (l.map .str)) : vlen T G t_sl_string v = some (.int .i64 (l.length : Nat)) := by
  rw [h.len (i := ti_sl_string) T_sl_string rfl, List.length_map]

theorem escrowlaw02_kept.use {id : AId} {cap : Nat} {rest : List AVal} {v : AVal} {l : List (List UInt8)} (hg : G id = some (.own (.agg (lentC l rest)))) (hu : uni 1 rest = true) (hc : l.length + 1 ≤ cap) (hl : IsSl 1 G v (l.map .str)) (hlen : l.length ≤ 1048576)
    (hQ : Q (.bool true) G) : ACalls P escrowlaw02_kept.n [.slice id [] 0 0 l.length cap, v] G Q := by
  refine escrowlaw02_kept.sound ?_
  unfold escrowlaw02_kept.S
  intro R hR
  have ho := lent_is (cap := cap) hg hu rfl
  have loop : ∀ (n j : Nat), l.length - j = n → j ≤ l.length → R [.slice id [] 0 0 l.length cap, v, .int .i64 (j : Int)] G := by
    intro n
    induction n with
    | zero =>
      intro j hn hj
      refine hR _ _ _ _ ?_
      refine wv_of (strs_len hl) ?_
      rw [vbin_lss, wv_some, decide_eq_false (by omega), brB_false]
      refine wv_of (strs_len ho) ?_
      refine wv_of (strs_len hl) ?_
      rw [ez0, wv_some, brB_true]
      refine wv_of (strs_len hl) ?_
      rw [vbin_add, i64_in (by omega) (by omega), wv_some]
      refine wv_of (slice_to (m := l.length + 1) T_sl_string rfl T_string rfl (by omega)) ?_
      refine wv_of (strs_len hl) ?_
      refine wv_of (row_slot (j := l.length) T_sl_string rfl T_string rfl (by omega)) ?_
      refine wv_of (arrN_get (s := 1) (c := .str markS) T_string hg (uni_lent hu) (by rw [lentC, List.getElem?_append_right (by simp)]; simp) rfl) ?_
      refine wv_of (v := .bool true) rfl ?_
      exact hQ
    | succ n ih =>
      intro j hn hj
      have hx : l[j]? = some (l[j]'(by omega)) := List.getElem?_eq_getElem (by omega)
      obtain ⟨a, e1, e2⟩ := str_elem ho hx
      obtain ⟨b, e3, e4⟩ := str_elem hl hx
      refine hR _ _ _ _ ?_
      refine wv_of (strs_len hl) ?_
      rw [vbin_lss, wv_some, decide_eq_true (by omega), brB_true]
      refine wv_of e1 ?_
      refine wv_of e2 ?_
      refine wv_of e3 ?_
      refine wv_of e4 ?_
      rw [vbin_sneq, wv_some, decide_eq_true rfl, Bool.not_true, brB_false, vbin_add, wv_some, i64_in (by omega) (by omega)]
      exact ih (j + 1) (by omega) (by omega)
  exact loop l.length 0 rfl (by omega)

end

set_option maxRecDepth 20000 in
set_option maxHeartbeats 4000000 in
theorem law_HashSums {R : Nat} {G : Heap} {v : AVal} {m : Nat} (h : wt T G R 4 t_sl_string v m) (hm : m ≤ 1048576) : ACalls P escrowlaw02_HashSums.n [v] G fun v _ => v = .bool true := by
  obtain ⟨l, ms, hro, hall, hms, _, _⟩ := wt_ro AVal.str (fun (x : List UInt8) m => m = x.length + 1) T_sl_string rfl T_string (fun c m h => by obtain ⟨s, rfl, _, _, hs⟩ := wt_str T_string rfl h; exact ⟨s, rfl, hs⟩) h
  have hsum := sum_strs hall
  have hfl : l.flatten.length + l.length ≤ 1048576 := by omega
  have hro : RoSl 1 G v (l.map .str) := hro
  refine escrowlaw02_HashSums.sound ?_
  unfold escrowlaw02_HashSums.S
  refine escrowlaw02_first.use fun G2 c2 => ?_
  have s2 := (Sp.nil G).tmp c2
  rw [vun_not, wv_some, Bool.not_true, brB_false]
  refine escrowlaw02_lend.use (hro.mono s2.ro) (by omega) fun id cap rest G5 hcap hu s5' => ?_
  obtain ⟨F5, p5, c5⟩ := s5'.out
  have s5 := s2.new (p := RowL id (.agg (lentC l rest))) p5 c5
  obtain ⟨S, hS⟩ : ∃ S, S = sha l.flatten := ⟨_, rfl⟩
  have hSl : S.length = 32 := by rw [hS]; exact length_sha _
  refine escrowref02_Sum.use (xs := l) (hro.mono s5.ro).is (by omega) (by omega) fun G7 c7 => ?_
  have s7 := s5.tmp c7
  rw [← hS]
  refine newVal s7 T_api_Hash (fits32 hSl) (sz32 hSl) (okv32 _) fun i8 G10 s10 => ?_
  have s10 : Sp [] G [RowL i8 (.agg (S.map u8v)), RowL id (.agg (lentC l rest))] G10 := s10
  intro J53
  have h53 : ∀ G22, Sp [] G [RowL i8 (.agg (S.map u8v)), RowL id (.agg (lentC l rest))] G22 → J53 (.bool false) G22 := by
    intro G22 s22
    simp -zeta only [J53, brB_false]
    intro R hR
    let w : Nat → List (List UInt8) := fun j => (l.map (· ++ [120])).take j ++ l.drop j
    have hwl : ∀ j, j ≤ l.length → (w j).length = l.length := fun j hj => by simp [w]; omega
    have loop : ∀ (n j : Nat) (v2 : AVal) (G' : Heap), l.length - j = n → j ≤ l.length → Sp [] G [OwnL 1 v2 (((l.map (· ++ [120])).take j).map .str), RowL i8 (.agg (S.map u8v)), RowL id (.agg (lentC (w j) rest))] G' → R [v, .slice id [] 0 0 l.length cap, .ptr i8 [] 0, v2, .int .i64 (j : Int)] G' := by
      intro n
      induction n with
      | zero =>
        intro j v2 G' hn hj s
        have hjl : j = l.length := by omega
        have hwe : w j = l.map (· ++ [120]) := by
          simp only [w]
          rw [hjl, List.drop_length, List.append_nil, List.take_of_length_le (by simp)]
        rw [hwe, hjl, List.take_of_length_le (by simp)] at s
        have hfx := flatten_x l
        refine hR _ _ _ _ _ _ ?_
        have hg := RowL.own (i := 2) s rfl
        have hwl' : (l.map (· ++ [120])).length = l.length := by simp
        have hlw : vlen T G' t_sl_string (.slice id [] 0 0 l.length cap) = some (.int .i64 (l.length : Nat)) := by
          rw [strs_len (lent_is (w := l.map (· ++ [120])) hg hu hwl'.symm), hwl']
        refine wv_of hlw ?_
        rw [vbin_lss, wv_some, decide_eq_false (by omega), brB_false]
        refine escrowref02_Sum.use (xs := l.map (· ++ [120])) (OwnL.own (i := 0) s rfl).is (by simp; omega) (by omega) fun G47 c47 => ?_
        have s47 := s.tmp c47
        obtain ⟨N, hN⟩ : ∃ N, N = sha (l.map (· ++ [120])).flatten := ⟨_, rfl⟩
        have hNl : N.length = 32 := by rw [hN]; exact length_sha _
        rw [← hN]
        refine wg_of (store_hash (hs' := N) hSl hNl (RowL.own (i := 1) s47 rfl)) ?_
        have s48 := Sp.setRow (j := 1) s47 rfl (.agg (N.map u8v))
        refine wv_of (load_hash hNl (RowL.own (i := 1) s48 rfl)) ?_
        refine hash_Sum.use (xs := l.map (· ++ [120])) (lent_cap (RowL.own (i := 2) s48 rfl) hu hwl'.symm (by omega)) (by simp; omega) (by omega) fun G51 c51 => ?_
        have s51 := s48.tmp c51
        refine ⟨⟨load_hash hNl (RowL.own (i := 1) s51 rfl), trivial⟩, ?_⟩
        rw [← hN]
        refine wv_of (hash_eql2 hNl hNl) ?_
        rw [decide_eq_true rfl]
      | succ n ih =>
        intro j v2 G' hn hj s
        have hg := RowL.own (i := 2) s rfl
        have hjl : j < l.length := by omega
        have hwj : (w j)[j]? = some (l[j]'hjl) := by
          have e : ((l.map (· ++ [120])).take j).length = j := by simp; omega
          simp only [w]
          rw [List.getElem?_append_right (by omega), e, Nat.sub_self, List.getElem?_drop, Nat.add_zero, List.getElem?_eq_getElem hjl]
        have hxl : (l[j]'hjl).length ≤ 1048576 := by
          have : (l[j]'hjl).length ≤ l.flatten.length := mem_len (List.getElem_mem hjl)
          omega
        refine hR _ _ _ _ _ _ ?_
        have hlw : vlen T G' t_sl_string (.slice id [] 0 0 l.length cap) = some (.int .i64 (l.length : Nat)) := by
          rw [strs_len (lent_is (w := w j) hg hu (hwl j hj).symm), hwl j hj]
        refine wv_of hlw ?_
        rw [vbin_lss, wv_some, decide_eq_true (by omega), brB_true]
        have ad : viaddr T t_sl_string (.slice id [] 0 0 l.length cap) (.int .i64 (j : Int)) = some (.ptr id [j] (0 + j * 1)) := row_slot T_sl_string rfl T_string rfl hjl
        have hcj : (lentC (w j) rest)[j]? = some (.str (l[j]'hjl)) := by
          rw [lentC, List.getElem?_append_left (by rw [List.length_map, hwl j hj]; exact hjl), List.getElem?_map, hwj]
          rfl
        refine wv_of ad ?_
        refine wv_of (arrN_get (s := 1) T_string hg (uni_lent hu) hcj rfl) ?_
        rw [vbin_sadd _ _ (by simp; omega), wv_some]
        refine wv_of ad ?_
        refine wg_of (arrN_set (s := 1) (u := .str (l[j]'hjl)) T_string hg (uni_lent hu) hcj rfl rfl rfl) ?_
        have hset : (lentC (w j) rest).set j (.str (l[j]'hjl ++ [120])) = lentC (w (j + 1)) rest := by
          have e : (w j).set j (l[j]'hjl ++ [120]) = w (j + 1) := by
            simp only [w]
            have el : ((l.map (· ++ [120])).take j).length = j := by simp; omega
            rw [List.set_append_right _ _ (by omega), el, Nat.sub_self, List.drop_eq_getElem_cons hjl, List.set_cons_zero, List.take_succ_eq_append_getElem (by simp; omega), List.append_assoc]
            simp
          rw [lentC, List.set_append_left _ _ (by rw [List.length_map, hwl j hj]; exact hjl), ← List.map_set, e]
          rfl
        rw [hset]
        have s2 := Sp.setRow (j := 2) s rfl (.agg (lentC (w (j + 1)) rest))
        obtain ⟨b, e3, e4⟩ := str_elem (hro.mono s2.ro).is (List.getElem?_eq_getElem hjl)
        refine wv_of e3 ?_
        refine wv_of e4 ?_
        rw [vbin_sadd _ _ (by simp; omega), wv_some]
        refine growV (T := T) (ts := t_sl_string) (e := t_string) (si := ti_sl_string) (ie := ti_string) (i := 0) T_sl_string rfl T_string rfl (by decide) s2 rfl rfl rfl (by decide) ?_ fun v3 G3 s3 => ?_
        · have hb : ti_string.bytes = 16 := rfl
          rw [hb]
          simp
          omega
        rw [vbin_add, wv_some, i64_in (by omega) (by omega)]
        refine ih (j + 1) _ _ (by omega) (by omega) ?_
        have e : (l.map (· ++ [120])).take (j + 1) = (l.map (· ++ [120])).take j ++ [l[j]'hjl ++ [120]] := by
          rw [List.take_succ_eq_append_getElem (by simp; omega)]
          simp
        rw [e, List.map_append]
        exact s3
    refine loop l.length 0 .nilSlice _ rfl (by omega) ?_
    have hw0 : w 0 = l := by simp [w]
    rw [hw0]
    exact s22.nilL 1
  refine wv_of (load_hash hSl (RowL.own (i := 0) s10 rfl)) ?_
  have cp : ∀ {G' : Heap} {ps : List LP} {q : Nat}, Sp [] G ps G' → ps[q]? = some (RowL id (.agg (lentC l rest))) → CapSl 1 G' (.slice id [] 0 0 l.length cap) (l.map .str) := fun s hq => lent_cap (RowL.own s hq) hu rfl (by omega)
  refine hash_Sum.use (xs := l) (cp (q := 1) s10 rfl) (by omega) (by omega) fun G13 c13 => ?_
  have s13 := s10.tmp c13
  refine ⟨⟨load_hash hSl (RowL.own (i := 0) s13 rfl), trivial⟩, ?_⟩
  rw [← hS]
  refine wv_of (hash_neq2 hSl hSl) ?_
  rw [decide_eq_true rfl, Bool.not_true, brB_false]
  refine wv_of (load_hash hSl (RowL.own (i := 0) s13 rfl)) ?_
  refine hash_Sum.use (xs := l) (cp (q := 1) s13 rfl) (by omega) (by omega) fun G17 c17 => ?_
  have s17 := s13.tmp c17
  refine ⟨⟨load_hash hSl (RowL.own (i := 0) s17 rfl), trivial⟩, ?_⟩
  rw [← hS]
  refine wv_of (hash_neq2 hSl hSl) ?_
  rw [decide_eq_true rfl, Bool.not_true, brB_false]
  refine escrowlaw02_kept.use (RowL.own (i := 1) s17 rfl) hu (by omega) (hro.mono s17.ro).is (by omega) ?_
  rw [vun_not, wv_some]
  exact h53 _ s17

end Go.Esc.M
