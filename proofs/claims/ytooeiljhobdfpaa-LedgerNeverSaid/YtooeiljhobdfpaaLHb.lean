import Derived.Test.YtooeiljhobdfpaaLAr
import Derived.Test.YtooeiljhobdfpaaLLib
import Derived.Test.YtooeiljhobdfpaaSS
import Derived.Test.YtooeiljhobdfpaaLib
/- Own work. Lists in one's own rows: the first of them, with spare room behind; written over by a copy; an element set. -/
set_option linter.unusedSimpArgs false
set_option linter.unusedVariables false
namespace Go.Esc
open Go Go.RowKit

theorem set_same {α : Type} : ∀ {l : List α} {j : Nat} {x : α}, l[j]? = some x → l.set j x = l
  | [], _, _, h => by simp at h
  | a :: l, 0, x, h => by simp at h; simp [h]
  | a :: l, j + 1, x, h => by rw [List.set_cons_succ, set_same (by simpa using h)]
/-- The first m of a list of so many. -/
def LentG (w v : AVal) (m len : Nat) : Prop := (v = .nilSlice ∧ w = .nilSlice ∧ m = 0 ∧ len = 0) ∨ ∃ id cap, v = .slice id [] 0 0 len cap ∧ w = .slice id [] 0 0 m cap ∧ m ≤ len ∧ len ≤ cap

theorem LentG.own {w v : AVal} {m len : Nat} (h : LentG w v m len) {n : Nat} {G : Heap} {vs : List AVal} (hl : vs.length = len) (ho : Own n G v vs) : Own n G w (vs.take m) := by
  rcases h with ⟨rfl, rfl, rfl, rfl⟩ | ⟨id, cap, rfl, rfl, hm, hc⟩
  · have : vs = [] := List.length_eq_zero_iff.1 hl
    subst this
    exact .inl ⟨rfl, rfl⟩
  · rcases ho with ⟨h, _⟩ | ⟨id', len', cap', cs', h1, hg', hc', hl', hu', he'⟩
    · cases h
    · injection h1 with i1 i2 i3 i4 i5 i6
      subst i1 i5 i6
      refine .inr ⟨id, m, cap, cs', rfl, hg', hc', by omega, hu', ?_⟩
      rw [he', List.take_take, Nat.min_eq_left hm]
theorem LentG.leaf {w v : AVal} {m len : Nat} (h : LentG w v m len) : sz w = 1 ∧ w.isAgg = false ∧ okv w = true := by
  rcases h with ⟨_, rfl, _, _⟩ | ⟨id, cap, _, rfl, _⟩ <;> exact ⟨rfl, rfl, rfl⟩
theorem LentG.cap {w v : AVal} {m len : Nat} (h : LentG w v m len) {n : Nat} {G : Heap} {vs : List AVal} (hl : vs.length = len) (ho : Own n G v vs) : CapSl n G w (vs.take m) := by
  rcases h with ⟨rfl, rfl, rfl, rfl⟩ | ⟨id, cap, rfl, rfl, hm, hc⟩
  · exact .inr ⟨rfl, by simp⟩
  · refine .inl ⟨id, [], 0, 0, m, cap, rfl, by omega, ?_⟩
    have := (LentG.own (.inr ⟨id, cap, rfl, rfl, hm, hc⟩ : LentG (.slice id [] 0 0 m cap) (.slice id [] 0 0 len cap) m len) hl ho).is.elems
    exact this

section
variable {T : Tbl} {t e : TypeId} {i ie : TI} (ht : T t = some i) (hd : i.desc = .slice e) (he : T e = some ie)

include ht hd he in
theorem LentG.mk {n : Nat} {G : Heap} {v : AVal} {vs : List AVal} (ho : Own n G v vs) {k : IntKind} {m : Nat} {x : Int} (hx : x = (m : Int)) (hm : m ≤ vs.length) : ∃ w, vslice T t v none (some (.int k x)) none = some w ∧ LentG w v m vs.length := by
  subst hx
  rcases ho with ⟨rfl, rfl⟩ | ⟨id, len, cap, cs, rfl, hg, hc, hl, hu, hv⟩
  · simp at hm
    subst hm
    exact ⟨.nilSlice, by simp [vslice, ht, hd, he, sbounds, sbound], .inl ⟨rfl, rfl, rfl, rfl⟩⟩
  · have hvl : vs.length = len := by rw [hv, List.length_take]; omega
    refine ⟨.slice id [] 0 0 m cap, ?_, .inr ⟨id, cap, by rw [hvl], rfl, hm, by omega⟩⟩
    simp only [vslice, ht, hd, he]
    rw [sbounds_high (by omega)]
    simp
include ht hd he in
theorem LentG.back {w v : AVal} {m len : Nat} (h : LentG w v m len) {k : IntKind} {x : Int} (hx : x = (len : Int)) : vslice T t w none (some (.int k x)) none = some v := by
  subst hx
  rcases h with ⟨rfl, rfl, rfl, rfl⟩ | ⟨id, cap, rfl, rfl, hm, hc⟩
  · simp [vslice, ht, hd, he, sbounds, sbound]
  · simp only [vslice, ht, hd, he]
    rw [sbounds_high (by omega)]
    simp

include ht hd he in
/-- The first of a list, written over. -/
theorem Sp.copyL {F0 : List AId} {G0 G : Heap} {ps : List LP} {j : Nat} {w v x : AVal} {vs xs : List AVal} {m : Nat} {K : AVal → Heap → Prop} (hs : Sp F0 G0 ps G) (hi : ps[j]? = some (OwnL ie.size v vs)) (L : LentG w v m vs.length) (hm : m ≤ vs.length)
    (hx : selems G ie.size x = some xs) (hxl : xs.length = m) (hu : uni ie.size xs = true) (hok : okvs xs = true) (hK : ∀ G', Sp F0 G0 (ps.set j (OwnL ie.size v (xs ++ vs.drop m))) G' → K (.int .i64 (m : Int)) G') : aCopy T G t w x K := by
  have ho := OwnL.own hs hi
  unfold aCopy
  simp only [ht, hd, he, hx]
  rcases L with ⟨rfl, rfl, rfl, hl0⟩ | ⟨id, cap, rfl, rfl, hml, hc⟩
  · have e1 : xs = [] := List.length_eq_zero_iff.1 hxl
    subst e1
    have := hK G (by
      have e : ps.set j (OwnL ie.size .nilSlice ([] ++ vs.drop 0)) = ps := by
        rw [List.nil_append, List.drop_zero]
        exact set_same hi
      rw [e]; exact hs)
    exact this
  · simp only
    rcases ho with ⟨h, _⟩ | ⟨id', len', cap', cs, h1, hg, hcs, hl, hun, hv⟩
    · cases h
    · injection h1 with i1 i2 i3 i4 i5 i6
      subst i1 i5 i6
      rw [List.take_of_length_le (by omega), hxl, Nat.min_self]
      have harr : arrAt G ie.size id [] 0 0 = some cs := by simp [arrAt, vsub, hg, treeOf, sub, hun]
      have hput : ∀ cs', putArr G id [] ie.size 0 0 cs' = some (G.upd id (.own (.agg cs'))) := fun cs' => by simp [putArr, hg, sub, putAt]
      cases xs with
      | nil =>
        have hm0 : m = 0 := by simpa using hxl.symm
        subst hm0
        unfold lay
        refine hK G ?_
        have e : ps.set j (OwnL ie.size (.slice id [] 0 0 vs.length cap) ([] ++ vs.drop 0)) = ps := by
          rw [List.nil_append, List.drop_zero]
          exact set_same hi
        rw [e]; exact hs
      | cons y ys =>
        unfold lay
        rw [harr]
        simp only
        refine ⟨by omega, hok, hu, ?_⟩
        rw [hput]
        refine hK _ ?_
        refine hs.call hi (OwnL ie.size (.slice id [] 0 0 vs.length cap) (y :: ys ++ vs.drop m)) fun F h k => ?_
        obtain ⟨_, rfl⟩ := h
        have h2 : vs.drop m = (cs.drop m).take (vs.length - m) := by
          conv => lhs; rw [hv]
          rw [List.drop_take]
        refine k _ _ ⟨.inr ⟨id, vs.length, cap, y :: ys ++ cs.drop m, rfl, ?_, by rw [List.length_append, List.length_drop]; omega, hc, ?_, ?_⟩, rfl⟩ (by simpa [rowOf] using Go.Esc.M.upd_ch hg (by simp))
        · rw [Heap.upd_self, Nat.add_zero, List.take_zero, List.nil_append, Nat.zero_add, hxl]
        · have h3 := uni_drop hun m
          simp only [Esc.uni, List.all_append, Bool.and_eq_true] at hu h3 ⊢
          exact ⟨hu, h3⟩
        · rw [h2, List.take_append, List.take_of_length_le (l := y :: ys) (by rw [hxl]; omega), hxl]

include ht hd he in
/-- An element of one's own list, set. -/
theorem Sp.setL {F0 : List AId} {G0 G : Heap} {ps : List LP} {j q : Nat} {v : AVal} {vs : List AVal} {c : AVal} {k : IntKind} {x : Int} (hs : Sp F0 G0 ps G) (hi : ps[j]? = some (OwnL ie.size v vs)) (hx : x = (q : Int)) (hq : q < vs.length) (hc : sz c = ie.size) (ha : c.isAgg = ie.desc.isAgg) (hok : okv c = true) :
    ∃ a, viaddr T t v (.int k x) = some a ∧ ∀ K : Heap → Prop, (∀ G', Sp F0 G0 (ps.set j (OwnL ie.size v (vs.set q c))) G' → K G') → wg (vstore T G e a c) K := by
  subst hx
  have ho := OwnL.own hs hi
  rcases ho with ⟨_, h⟩ | ⟨id, len, cap, cs, rfl, hg, hcs, hl, hun, hv⟩
  · rw [h] at hq; simp at hq
  · have hlen : vs.length = len := by rw [hv, List.length_take]; omega
    obtain ⟨a, h1, h2⟩ := own_set ht hd he (cap := cap) (k := k) (j := q) hg hun (by omega) (by omega) hc ha hok
    subst hlen
    refine ⟨a, h1, fun K hK => wg_of h2 (hK _ ?_)⟩
    refine hs.call hi (OwnL ie.size (.slice id [] 0 0 vs.length cap) (vs.set q c)) fun F h k => ?_
    obtain ⟨_, rfl⟩ := h
    refine k _ _ ⟨.inr ⟨id, vs.length, cap, cs.set q c, rfl, Heap.upd_self _ _ _, by simpa using hcs, hl, uni_set hun hc, ?_⟩, rfl⟩ (by simpa [rowOf] using Go.Esc.M.upd_ch hg (by simp))
    have e : (cs.set q c).take vs.length = (cs.take vs.length).set q c := List.take_set
    rw [e, ← hv]

end

end Go.Esc

/- Own work. Chapter 2: words of 32 bits; arrays of them; the sum as a function on lists. -/
set_option linter.unusedSimpArgs false
set_option linter.unusedVariables false
namespace Go.Esc
open Go Go.RowKit

def add32 (a b : Nat) : Nat := (a + b) % 4294967296
def xor32 (a b : Nat) : Nat := (a ^^^ b) % 4294967296
def and32 (a b : Nat) : Nat := (a &&& b) % 4294967296
def or32 (a b : Nat) : Nat := (a ||| b) % 4294967296
def not32 (a : Nat) : Nat := 4294967295 - a % 4294967296
def shl32 (k a : Nat) : Nat := (2 ^ k * a) % 4294967296
def shr32 (k a : Nat) : Nat := a / 2 ^ k
/-- Turned right. -/
def rotr (k a : Nat) : Nat := or32 (shr32 k a) (shl32 (32 - k) a)

theorem or32_comm (a b : Nat) : or32 a b = or32 b a := by unfold or32; rw [Nat.or_comm]

section
variable {T : Tbl} {t : TypeId} {a b : Nat}

theorem bv_of (w a : Nat) : (BitVec.ofInt w (a : Int)).toNat = a % 2 ^ w := by rw [BitVec.ofInt_natCast, BitVec.toNat_ofNat]

theorem u32_add : vbin T .add t (.int .u32 (a : Int)) (.int .u32 (b : Int)) = some (.int .u32 ((add32 a b : Nat) : Int)) := by
  rw [vbin_add, wrapU32]
  congr 2
theorem u32_xor : vbin T .xor t (.int .u32 (a : Int)) (.int .u32 (b : Int)) = some (.int .u32 ((xor32 a b : Nat) : Int)) := by
  have hb : IntKind.u32.bits = 32 := rfl
  rw [vbin_xor, wrapU32, BitVec.toNat_xor, bv_of, bv_of, hb, ← Nat.xor_mod_two_pow]
  congr 2
  have : (a ^^^ b) % 2 ^ 32 = xor32 a b := rfl
  rw [this]
  have : xor32 a b < 4294967296 := Nat.mod_lt _ (by decide)
  omega
theorem u32_and : vbin T .and t (.int .u32 (a : Int)) (.int .u32 (b : Int)) = some (.int .u32 ((and32 a b : Nat) : Int)) := by
  have hb : IntKind.u32.bits = 32 := rfl
  rw [vbin_and, wrapU32, BitVec.toNat_and, bv_of, bv_of, hb, ← Nat.and_mod_two_pow]
  congr 2
  have : (a &&& b) % 2 ^ 32 = and32 a b := rfl
  rw [this]
  have : and32 a b < 4294967296 := Nat.mod_lt _ (by decide)
  omega
theorem u32_or : vbin T .or t (.int .u32 (a : Int)) (.int .u32 (b : Int)) = some (.int .u32 ((or32 a b : Nat) : Int)) := by
  have hb : IntKind.u32.bits = 32 := rfl
  rw [vbin_or, wrapU32, BitVec.toNat_or, bv_of, bv_of, hb, ← Nat.or_mod_two_pow]
  congr 2
  have : (a ||| b) % 2 ^ 32 = or32 a b := rfl
  rw [this]
  have : or32 a b < 4294967296 := Nat.mod_lt _ (by decide)
  omega
theorem u32_not : vun .xor (.int .u32 (a : Int)) = some (.int .u32 ((not32 a : Nat) : Int)) := by
  have h1 : (BitVec.ofInt 32 (4294967295 : Int) ^^^ BitVec.ofInt 32 (a : Int)).toNat = not32 a := by
    have h2 : BitVec.ofInt 32 (4294967295 : Int) = BitVec.allOnes 32 := by decide
    rw [h2, BitVec.allOnes_xor, BitVec.toNat_not, bv_of]
    rfl
  show some (AVal.int .u32 (IntKind.u32.wrap ((BitVec.ofInt 32 (4294967295 : Int) ^^^ BitVec.ofInt 32 (a : Int)).toNat : Nat))) = _
  rw [h1, wrapU32]
  have : not32 a < 4294967296 := by unfold not32; omega
  congr 2
  omega
theorem u32_shr {k : Nat} {n : Int} {kk : IntKind} (hn : n = (k : Int)) (hk : k ≤ 31) : vbin T .shr t (.int .u32 (a : Int)) (.int kk n) = some (.int .u32 ((shr32 k a : Nat) : Int)) := by
  subst hn
  rw [vbin_shr _ _ _ _ _ _ (by omega)]
  have h1 : min ((k : Int)).toNat IntKind.u32.bits = k := by
    have : IntKind.u32.bits = 32 := rfl
    omega
  have h2 : ((2 : Int) ^ k) = ((2 ^ k : Nat) : Int) := by simp
  rw [h1, h2, Int.fdiv_eq_ediv_of_nonneg _ (Int.natCast_nonneg _)]
  congr 2
theorem u32_shl {k : Nat} {n : Int} {kk : IntKind} (hn : n = (k : Int)) (hk : k ≤ 31) : vbin T .shl t (.int .u32 (a : Int)) (.int kk n) = some (.int .u32 ((shl32 k a : Nat) : Int)) := by
  subst hn
  rw [vbin_shl _ _ _ _ _ _ (by omega), wrapU32]
  have h1 : min ((k : Int)).toNat IntKind.u32.bits = k := by
    have : IntKind.u32.bits = 32 := rfl
    omega
  have h2 : ((2 : Int) ^ k) = ((2 ^ k : Nat) : Int) := by simp
  rw [h1, h2]
  congr 2
  unfold shl32
  rw [Int.mul_comm]
  simp

end

/-! ### Arrays of single cells -/

def u32s (ws : List Nat) : List AVal := ws.map fun (n : Nat) => .int .u32 (n : Int)
theorem uni_u32s (ws : List Nat) : uni 1 (u32s ws) = true := by simp [uni, u32s, sz]
theorem okvs_u32s : ∀ l : List Nat, okvs (u32s l) = true
  | [] => rfl
  | b :: l => by have := okvs_u32s l; simp only [u32s] at this; simp [u32s, okvs, okv, this]
theorem length_u32s (l : List Nat) : (u32s l).length = l.length := by simp [u32s]

section
variable {T : Tbl} {ta te : TypeId} {ia ie : TI} {n : Nat} {G : Heap} {i : AId} {cs : List AVal}

theorem arr_addr (hta : T ta = some ia) (hda : ia.desc = .array n te) (hte : T te = some ie) (hz : ie.size = 1) {k : IntKind} {m : Int} {j : Nat} (hm : m = (j : Int)) (hj : j < n) : viaddr T ta (.ptr i [] 0) (.int k m) = some (.ptr i [j] j) := by
  subst hm
  simp only [viaddr, hta, hda, hte]
  rw [if_pos ⟨by omega, by omega⟩]
  simp [hz]
theorem arr_get (hte : T te = some ie) {c : AVal} {j : Nat} (hg : G i = some (.own (.agg cs))) (hu : uni 1 cs = true) (hj : cs[j]? = some c) (hf : vfits ie c = true) : vload T G te (.ptr i [j] j) = some c := by
  have hl := (List.getElem?_eq_some_iff.1 hj).1
  exact vload_fld hg rfl (by rw [szs_uni (n := 1) (uni_take hu j)]; simp; omega) hj hte hf
theorem arr_set (hte : T te = some ie) {c u : AVal} {j : Nat} (hg : G i = some (.own (.agg cs))) (hu : uni 1 cs = true) (hj : cs[j]? = some u) (hf : vfits ie c = true) (hs : sz u = sz c) (hok : okv c = true) :
    vstore T G te (.ptr i [j] j) c = some (G.upd i (.own (.agg (cs.set j c)))) := by
  have hl := (List.getElem?_eq_some_iff.1 hj).1
  exact vstore_fld hg (by rw [szs_uni (n := 1) (uni_take hu j)]; simp; omega) hj hte hf hs hok
theorem arr_whole (hta : T ta = some ia) (hag : ia.desc.isAgg = true) (hn : ia.size = cs.length) (hg : G i = some (.own (.agg cs))) (hu : uni 1 cs = true) : vload T G ta (.ptr i [] 0) = some (.agg cs) := by
  have h1 : szs cs = cs.length := by rw [szs_uni hu, Nat.mul_one]
  simp [vload, vsub, hg, treeOf, sub, hta, vfits, sz, h1, hn, AVal.isAgg, hag]
theorem arr_put {cs' : List AVal} (hta : T ta = some ia) (hag : ia.desc.isAgg = true) (hn : ia.size = cs'.length) (hl : cs.length = cs'.length) (hg : G i = some (.own (.agg cs))) (hu : uni 1 cs = true) (hu' : uni 1 cs' = true) (hok : okvs cs' = true) :
    vstore T G ta (.ptr i [] 0) (.agg cs') = some (G.upd i (.own (.agg cs'))) := by
  have h1 : szs cs = cs.length := by rw [szs_uni hu, Nat.mul_one]
  have h2 : szs cs' = cs'.length := by rw [szs_uni hu', Nat.mul_one]
  simp [vstore, hg, sub, hta, vfits, sz, h1, h2, hn, hl, AVal.isAgg, hag, okv, hok, putAt]

end

/-! ### The sum -/

def sig0 (x : Nat) : Nat := xor32 (xor32 (rotr 7 x) (rotr 18 x)) (shr32 3 x)
def sig1 (y : Nat) : Nat := xor32 (xor32 (rotr 17 y) (rotr 19 y)) (shr32 10 y)
def nextW (ws : List Nat) : Nat :=
  add32 (add32 (add32 (ws.getD (ws.length - 16) 0) (sig0 (ws.getD (ws.length - 15) 0))) (ws.getD (ws.length - 7) 0)) (sig1 (ws.getD (ws.length - 2) 0))
def sched : Nat → List Nat → List Nat
  | 0, ws => ws
  | n + 1, ws => sched n (ws ++ [nextW ws])
/-- A word of a block. -/
def num32 : Nat → List UInt8 → Nat
  | v, [] => v
  | v, b :: l => num32 (v * 256 + b.toNat) l
def word (b : List UInt8) (i : Nat) : Nat := num32 0 ((b.drop (4 * i)).take 4)
def words (b : List UInt8) (n : Nat) : List Nat := (List.range n).map (word b)
def K256 : List Nat := [1116352408, 1899447441, 3049323471, 3921009573, 961987163, 1508970993, 2453635748, 2870763221, 3624381080, 310598401, 607225278, 1426881987, 1925078388, 2162078206, 2614888103, 3248222580, 3835390401, 4022224774, 264347078, 604807628, 770255983, 1249150122, 1555081692, 1996064986, 2554220882, 2821834349, 2952996808, 3210313671, 3336571891, 3584528711, 113926993, 338241895, 666307205, 773529912, 1294757372, 1396182291, 1695183700, 1986661051, 2177026350, 2456956037, 2730485921, 2820302411, 3259730800, 3345764771, 3516065817, 3600352804, 4094571909, 275423344, 430227734, 506948616, 659060556, 883997877, 958139571, 1322822218, 1537002063, 1747873779, 1955562222, 2024104815, 2227730452, 2361852424, 2428436474, 2756734187, 3204031479, 3329325298]
def H256 : List Nat := [1779033703, 3144134277, 1013904242, 2773480762, 1359893119, 2600822924, 528734635, 1541459225]

def rndU (k w e f g h : Nat) : Nat := add32 (add32 (add32 (add32 h (xor32 (xor32 (rotr 6 e) (rotr 11 e)) (rotr 25 e))) (xor32 (and32 e f) (and32 (not32 e) g))) k) w
def rndV (a b c : Nat) : Nat := add32 (xor32 (xor32 (rotr 2 a) (rotr 13 a)) (rotr 22 a)) (xor32 (xor32 (and32 a b) (and32 a c)) (and32 b c))
def rnd (k w : Nat) : List Nat → List Nat
  | [a, b, c, d, e, f, g, h] => [add32 (rndU k w e f g h) (rndV a b c), a, b, c, add32 d (rndU k w e f g h), e, f, g]
  | l => l
def rnds : List Nat → List Nat → List Nat → List Nat
  | k :: ks, w :: ws, r => rnds ks ws (rnd k w r)
  | _, _, r => r
def compress (h : List Nat) (b : List UInt8) : List Nat := List.zipWith add32 (rnds K256 (sched 48 (words b 16)) h) h
def chain : Nat → List Nat → List UInt8 → List Nat
  | 0, h, _ => h
  | n + 1, h, m => chain n (compress h (m.take 64)) (m.drop 64)
def bytesBE : Nat → Nat → List UInt8
  | 0, _ => []
  | k + 1, v => UInt8.ofNat (v / 2 ^ (8 * k)) :: bytesBE k v
def pad (s : List UInt8) : List UInt8 := s ++ 128 :: (List.replicate ((119 - s.length % 64) % 64) 0 ++ bytesBE 8 (8 * s.length))
def digest (h : List Nat) : List UInt8 := (List.range 32).map fun i => UInt8.ofNat (shr32 (24 - 8 * (i % 4)) (h.getD (i / 4) 0))
def sha (s : List UInt8) : List UInt8 := digest (chain ((pad s).length / 64) H256 (pad s))

end Go.Esc

/- Own work. Chapter 2: the sum, in the program. -/
set_option linter.unusedSimpArgs false
set_option linter.unusedVariables false
namespace Go.Esc


/-! Lists of words. -/
theorem getD_some {l : List Nat} {j : Nat} (h : j < l.length) : l[j]? = some (l.getD j 0) := by
  rw [List.getD_eq_getElem?_getD, List.getElem?_eq_getElem h]; rfl

theorem num32_snoc : ∀ (l : List UInt8) (v : Nat) (b : UInt8), num32 v (l ++ [b]) = num32 v l * 256 + b.toNat
  | [], v, b => rfl
  | c :: l, v, b => by rw [List.cons_append, num32, num32, num32_snoc l]
theorem num32_lt : ∀ (l : List UInt8) (v : Nat), num32 v l < (v + 1) * 256 ^ l.length
  | [], v => by simp [num32]
  | b :: l, v => by
    have h := num32_lt l (v * 256 + b.toNat)
    have hb : b.toNat < 256 := b.toNat_lt
    rw [num32, List.length_cons, Nat.pow_succ]
    refine Nat.lt_of_lt_of_le h ?_
    rw [Nat.mul_comm (256 ^ l.length) 256, ← Nat.mul_assoc]
    exact Nat.mul_le_mul_right _ (by omega)

theorem or_low (k n b : Nat) (hb : b < 2 ^ k) (hn : 2 ^ k * n + b < 4294967296) : or32 (shl32 k n) b = 2 ^ k * n + b := by
  unfold or32 shl32
  rw [Nat.mod_eq_of_lt (a := 2 ^ k * n) (by omega), ← Nat.two_pow_add_eq_or_of_lt hb, Nat.mod_eq_of_lt hn]

theorem length_sched : ∀ (n : Nat) (ws : List Nat), (sched n ws).length = ws.length + n
  | 0, ws => rfl
  | n + 1, ws => by rw [sched, length_sched n]; simp; omega
theorem length_words (b : List UInt8) (n : Nat) : (words b n).length = n := by simp [words]
theorem words_succ (b : List UInt8) (n : Nat) : words b (n + 1) = words b n ++ [word b n] := by simp [words, List.range_succ]

theorem set_fill {α : Type} {ws : List α} {z x : α} {n : Nat} (hn : ws.length < n) : (ws ++ List.replicate (n - ws.length) z).set ws.length x = (ws ++ [x]) ++ List.replicate (n - (ws ++ [x]).length) z := by
  rw [List.set_append_right _ _ (Nat.le_refl _), Nat.sub_self, show n - ws.length = (n - (ws ++ [x]).length) + 1 by simp; omega, List.replicate_succ, List.set_cons_zero, List.append_assoc]
  rfl

/-- Words in a row that is filled up with zeros. -/
def filled (n : Nat) (ws : List Nat) : List AVal := u32s ws ++ List.replicate (n - ws.length) (.int .u32 ((0 : Nat) : Int))
theorem uni_filled (n : Nat) (ws : List Nat) : uni 1 (filled n ws) = true := by
  unfold filled
  exact uni_append (uni_u32s ws) (uni_replicate rfl)
theorem length_filled {n : Nat} {ws : List Nat} (h : ws.length ≤ n) : (filled n ws).length = n := by simp [filled, length_u32s]; omega
theorem filled_full {n : Nat} {ws : List Nat} (h : ws.length = n) : filled n ws = u32s ws := by simp [filled, h]
theorem filled_get {n : Nat} {ws : List Nat} {j : Nat} (h : j < ws.length) : (filled n ws)[j]? = some (.int .u32 (ws.getD j 0 : Nat)) := by
  unfold filled
  rw [List.getElem?_append_left (by rw [length_u32s]; exact h), u32s, List.getElem?_map, getD_some h]
  rfl
theorem filled_next {n : Nat} {ws : List Nat} (h : ws.length < n) : (filled n ws)[ws.length]? = some (.int .u32 ((0 : Nat) : Int)) := by
  unfold filled
  rw [List.getElem?_append_right (by rw [length_u32s]; omega), length_u32s, Nat.sub_self, show n - ws.length = (n - ws.length - 1) + 1 by omega, List.replicate_succ]
  rfl
theorem filled_set {n : Nat} {ws : List Nat} {x : Nat} (h : ws.length < n) : (filled n ws).set ws.length (.int .u32 (x : Int)) = filled n (ws ++ [x]) := by
  unfold filled
  have := set_fill (ws := u32s ws) (z := AVal.int .u32 ((0 : Nat) : Int)) (x := .int .u32 (x : Int)) (n := n) (by rw [length_u32s]; exact h)
  rw [length_u32s] at this
  rw [this]
  simp [u32s]
theorem u32s_set (ws : List Nat) (j x : Nat) : (u32s ws).set j (.int .u32 (x : Int)) = u32s (ws.set j x) := by simp [u32s, List.map_set]
theorem u32s_get {ws : List Nat} {j : Nat} (h : j < ws.length) : (u32s ws)[j]? = some (.int .u32 (ws.getD j 0 : Nat)) := by
  rw [u32s, List.getElem?_map, getD_some h]
  rfl

end Go.Esc
namespace Go.Esc.M
open Go Go.Esc

theorem str_at {l : List UInt8} {j : Nat} {m : Int} (hm : m = (j : Int)) (h : j < l.length) : vindex T t_string (.str l) (.int .i64 m) = some (.int .u8 l[j].toNat) := by
  subst hm
  simp [vindex, T_string, ti_string, h]
theorem str_cut {l : List UInt8} {n : Int} (h0 : 0 ≤ n) (h : n ≤ l.length) : vslice T t_string (.str l) none (some (.int .i64 n)) none = some (.str (l.take n.toNat)) := by
  have e : n = (n.toNat : Int) := by omega
  have hb := sbounds_high (len := l.length) (cap := l.length) (m := n.toNat) (k := .i64) (by omega)
  rw [← e] at hb
  simp [vslice, T_string, ti_string, hb]
theorem str_rest {l : List UInt8} {n : Int} (h0 : 0 ≤ n) (h : n ≤ l.length) : vslice T t_string (.str l) (some (.int .i64 n)) none none = some (.str (l.drop n.toNat)) := by
  have e : n = (n.toNat : Int) := by omega
  have hb := sbounds_low (len := l.length) (cap := l.length) (m := n.toNat) (k := .i64) (by omega) (by omega)
  rw [← e] at hb
  simp only [vslice, T_string, ti_string, hb]
  simp
  exact List.take_of_length_le (by simp)

section
variable {G : Heap} {Q : AVal → Heap → Prop}

end
end Go.Esc.M

/- Own work. Chapter 2: the sum, in the program: blocks. -/
set_option linter.unusedSimpArgs false
set_option linter.unusedVariables false
namespace Go.Esc

theorem len8 {r : List Nat} (h : r.length = 8) : ∃ a b c d e f g k, r = [a, b, c, d, e, f, g, k] := by
  match r, h with
  | [a, b, c, d, e, f, g, k], _ => exact ⟨a, b, c, d, e, f, g, k, rfl⟩

theorem length_rnd (k w : Nat) {r : List Nat} (h : r.length = 8) : (rnd k w r).length = 8 := by
  obtain ⟨a, b, c, d, e, f, g, k, rfl⟩ := len8 h
  rfl
theorem length_rnds : ∀ (ks ws r : List Nat), r.length = 8 → (rnds ks ws r).length = 8
  | [], _, r, h => by simpa [rnds] using h
  | k :: ks, [], r, h => by simpa [rnds] using h
  | k :: ks, w :: ws, r, h => by rw [rnds]; exact length_rnds ks ws _ (length_rnd k w h)
theorem length_compress {h : List Nat} {b : List UInt8} (hh : h.length = 8) : (compress h b).length = 8 := by
  unfold compress
  rw [List.length_zipWith, length_rnds _ _ _ hh, hh]; rfl
theorem length_K : K256.length = 64 := by decide

theorem drop_cons' {α : Type} {l : List α} {j : Nat} {x : α} (h : l[j]? = some x) : l.drop j = x :: l.drop (j + 1) := by
  obtain ⟨hl, rfl⟩ := List.getElem?_eq_some_iff.1 h
  exact List.drop_eq_getElem_cons hl

theorem vnil_ptr (i : AId) (p : List Nat) (o : Nat) : vnil (.ptr i p o) = some (.ptr i p o) := rfl

end Go.Esc
namespace Go.Esc.M
open Go Go.Esc

section
variable {G : Heap} {Q : AVal → Heap → Prop}

/-- The words of two lists together, one by one. -/
def addUp (r s : List Nat) (j : Nat) : List Nat := (List.zipWith add32 r s).take j ++ r.drop j
theorem addUp_zero (r s : List Nat) : addUp r s 0 = r := by simp [addUp]
theorem addUp_full {r s : List Nat} (h : r.length = s.length) : addUp r s r.length = List.zipWith add32 r s := by
  unfold addUp
  rw [List.take_of_length_le (by simp; omega), List.drop_length, List.append_nil]
theorem length_addUp {r s : List Nat} {j : Nat} (h : r.length = s.length) (hj : j ≤ r.length) : (addUp r s j).length = r.length := by
  simp [addUp]; omega
theorem addUp_get {r s : List Nat} {j : Nat} (h : r.length = s.length) (hj : j < r.length) : (addUp r s j)[j]? = some r[j] := by
  unfold addUp
  rw [List.getElem?_append_right (by simp; omega)]
  have : j - ((List.zipWith add32 r s).take j).length = 0 := by simp; omega
  rw [this, List.getElem?_drop, Nat.add_zero, List.getElem?_eq_getElem hj]
theorem addUp_set {r s : List Nat} {j : Nat} (h : r.length = s.length) (hj : j < r.length) (hs : j < s.length) : (addUp r s j).set j (add32 r[j] s[j]) = addUp r s (j + 1) := by
  unfold addUp
  have hl : ((List.zipWith add32 r s).take j).length = j := by simp; omega
  rw [List.set_append_right _ _ (by omega), hl, Nat.sub_self, List.drop_eq_getElem_cons hj, List.set_cons_zero, List.take_add_one, List.getElem?_zipWith, List.getElem?_eq_getElem hj, List.getElem?_eq_getElem hs]
  simp

end
end Go.Esc.M
