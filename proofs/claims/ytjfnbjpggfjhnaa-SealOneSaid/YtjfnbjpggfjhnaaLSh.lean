/- Own work. Chapter 2: words of 32 bits; arrays of them; the sum as a function on lists. -/
import Derived.Test.YtjfnbjpggfjhnaaLSp
import Derived.Test.YtjfnbjpggfjhnaaSS
set_option linter.unusedSimpArgs false
set_option linter.unusedVariables false
namespace Go.Esc
open Go Go.RowKit

def add32 (a b : Nat) : Nat := (a + b) % 4294967296
def xor32 (a b : Nat) : Nat := (a ^^^ b) % 4294967296
def and32 (a b : Nat) : Nat := (a &&& b) % 4294967296
def or32 (a b : Nat) : Nat := (a ||| b) % 4294967296
def not32 (a : Nat) : Nat := 4294967295 - a % 4294967296
def shl32 (k a : Nat) : Nat := (2 ^ k * a) % 4294967296
def shr32 (k a : Nat) : Nat := a / 2 ^ k
/-- Turned right. -/
def rotr (k a : Nat) : Nat := or32 (shr32 k a) (shl32 (32 - k) a)

theorem or32_comm (a b : Nat) : or32 a b = or32 b a := by unfold or32; rw [Nat.or_comm]

section
variable {T : Tbl} {t : TypeId} {a b : Nat}

theorem bv_of (w a : Nat) : (BitVec.ofInt w (a : Int)).toNat = a % 2 ^ w := by rw [BitVec.ofInt_natCast, BitVec.toNat_ofNat]

theorem u32_add : vbin T .add t (.int .u32 (a : Int)) (.int .u32 (b : Int)) = some (.int .u32 ((add32 a b : Nat) : Int)) := by
  rw [vbin_add, wrapU32]
  congr 2
theorem u32_xor : vbin T .xor t (.int .u32 (a : Int)) (.int .u32 (b : Int)) = some (.int .u32 ((xor32 a b : Nat) : Int)) := by
  have hb : IntKind.u32.bits = 32 := rfl
  rw [vbin_xor, wrapU32, BitVec.toNat_xor, bv_of, bv_of, hb, ← Nat.xor_mod_two_pow]
  congr 2
  have : (a ^^^ b) % 2 ^ 32 = xor32 a b := rfl
  rw [this]
  have : xor32 a b < 4294967296 := Nat.mod_lt _ (by decide)
  omega
theorem u32_and : vbin T .and t (.int .u32 (a : Int)) (.int .u32 (b : Int)) = some (.int .u32 ((and32 a b : Nat) : Int)) := by
  have hb : IntKind.u32.bits = 32 := rfl
  rw [vbin_and, wrapU32, BitVec.toNat_and, bv_of, bv_of, hb, ← Nat.and_mod_two_pow]
  congr 2
  have : (a &&& b) % 2 ^ 32 = and32 a b := rfl
  rw [this]
  have : and32 a b < 4294967296 := Nat.mod_lt _ (by decide)
  omega
theorem u32_or : vbin T .or t (.int .u32 (a : Int)) (.int .u32 (b : Int)) = some (.int .u32 ((or32 a b : Nat) : Int)) := by
  have hb : IntKind.u32.bits = 32 := rfl
  rw [vbin_or, wrapU32, BitVec.toNat_or, bv_of, bv_of, hb, ← Nat.or_mod_two_pow]
  congr 2
  have : (a ||| b) % 2 ^ 32 = or32 a b := rfl
  rw [this]
  have : or32 a b < 4294967296 := Nat.mod_lt _ (by decide)
  omega
theorem u32_not : vun .xor (.int .u32 (a : Int)) = some (.int .u32 ((not32 a : Nat) : Int)) := by
  have h1 : (BitVec.ofInt 32 (4294967295 : Int) ^^^ BitVec.ofInt 32 (a : Int)).toNat = not32 a := by
    have h2 : BitVec.ofInt 32 (4294967295 : Int) = BitVec.allOnes 32 := by decide
    rw [h2, BitVec.allOnes_xor, BitVec.toNat_not, bv_of]
    rfl
  show some (AVal.int .u32 (IntKind.u32.wrap ((BitVec.ofInt 32 (4294967295 : Int) ^^^ BitVec.ofInt 32 (a : Int)).toNat : Nat))) = _
  rw [h1, wrapU32]
  have : not32 a < 4294967296 := by unfold not32; omega
  congr 2
  omega
theorem u32_shr {k : Nat} {n : Int} {kk : IntKind} (hn : n = (k : Int)) (hk : k ≤ 31) : vbin T .shr t (.int .u32 (a : Int)) (.int kk n) = some (.int .u32 ((shr32 k a : Nat) : Int)) := by
  subst hn
  rw [vbin_shr _ _ _ _ _ _ (by omega)]
  have h1 : min ((k : Int)).toNat IntKind.u32.bits = k := by
    have : IntKind.u32.bits = 32 := rfl
    omega
  have h2 : ((2 : Int) ^ k) = ((2 ^ k : Nat) : Int) := by simp
  rw [h1, h2, Int.fdiv_eq_ediv_of_nonneg _ (Int.natCast_nonneg _)]
  congr 2
theorem u32_shl {k : Nat} {n : Int} {kk : IntKind} (hn : n = (k : Int)) (hk : k ≤ 31) : vbin T .shl t (.int .u32 (a : Int)) (.int kk n) = some (.int .u32 ((shl32 k a : Nat) : Int)) := by
  subst hn
  rw [vbin_shl _ _ _ _ _ _ (by omega), wrapU32]
  have h1 : min ((k : Int)).toNat IntKind.u32.bits = k := by
    have : IntKind.u32.bits = 32 := rfl
    omega
  have h2 : ((2 : Int) ^ k) = ((2 ^ k : Nat) : Int) := by simp
  rw [h1, h2]
  congr 2
  unfold shl32
  rw [Int.mul_comm]
  simp

end

/-! ### Arrays of single cells -/

def u32s (ws : List Nat) : List AVal := ws.map fun (n : Nat) => .int .u32 (n : Int)
theorem uni_u32s (ws : List Nat) : uni 1 (u32s ws) = true := by simp [uni, u32s, sz]
theorem okvs_u32s : ∀ l : List Nat, okvs (u32s l) = true
  | [] => rfl
  | b :: l => by have := okvs_u32s l; simp only [u32s] at this; simp [u32s, okvs, okv, this]
theorem length_u32s (l : List Nat) : (u32s l).length = l.length := by simp [u32s]

section
variable {T : Tbl} {ta te : TypeId} {ia ie : TI} {n : Nat} {G : Heap} {i : AId} {cs : List AVal}

theorem arr_addr (hta : T ta = some ia) (hda : ia.desc = .array n te) (hte : T te = some ie) (hz : ie.size = 1) {k : IntKind} {m : Int} {j : Nat} (hm : m = (j : Int)) (hj : j < n) : viaddr T ta (.ptr i [] 0) (.int k m) = some (.ptr i [j] j) := by
  subst hm
  simp only [viaddr, hta, hda, hte]
  rw [if_pos ⟨by omega, by omega⟩]
  simp [hz]
theorem arr_get (hte : T te = some ie) {c : AVal} {j : Nat} (hg : G i = some (.own (.agg cs))) (hu : uni 1 cs = true) (hj : cs[j]? = some c) (hf : vfits ie c = true) : vload T G te (.ptr i [j] j) = some c := by
  have hl := (List.getElem?_eq_some_iff.1 hj).1
  exact vload_fld hg rfl (by rw [szs_uni (n := 1) (uni_take hu j)]; simp; omega) hj hte hf
theorem arr_set (hte : T te = some ie) {c u : AVal} {j : Nat} (hg : G i = some (.own (.agg cs))) (hu : uni 1 cs = true) (hj : cs[j]? = some u) (hf : vfits ie c = true) (hs : sz u = sz c) (hok : okv c = true) :
    vstore T G te (.ptr i [j] j) c = some (G.upd i (.own (.agg (cs.set j c)))) := by
  have hl := (List.getElem?_eq_some_iff.1 hj).1
  exact vstore_fld hg (by rw [szs_uni (n := 1) (uni_take hu j)]; simp; omega) hj hte hf hs hok
theorem arr_whole (hta : T ta = some ia) (hag : ia.desc.isAgg = true) (hn : ia.size = cs.length) (hg : G i = some (.own (.agg cs))) (hu : uni 1 cs = true) : vload T G ta (.ptr i [] 0) = some (.agg cs) := by
  have h1 : szs cs = cs.length := by rw [szs_uni hu, Nat.mul_one]
  simp [vload, vsub, hg, treeOf, sub, hta, vfits, sz, h1, hn, AVal.isAgg, hag]
theorem arr_put {cs' : List AVal} (hta : T ta = some ia) (hag : ia.desc.isAgg = true) (hn : ia.size = cs'.length) (hl : cs.length = cs'.length) (hg : G i = some (.own (.agg cs))) (hu : uni 1 cs = true) (hu' : uni 1 cs' = true) (hok : okvs cs' = true) :
    vstore T G ta (.ptr i [] 0) (.agg cs') = some (G.upd i (.own (.agg cs'))) := by
  have h1 : szs cs = cs.length := by rw [szs_uni hu, Nat.mul_one]
  have h2 : szs cs' = cs'.length := by rw [szs_uni hu', Nat.mul_one]
  simp [vstore, hg, sub, hta, vfits, sz, h1, h2, hn, hl, AVal.isAgg, hag, okv, hok, putAt]

end

/-! ### The sum -/

def sig0 (x : Nat) : Nat := xor32 (xor32 (rotr 7 x) (rotr 18 x)) (shr32 3 x)
def sig1 (y : Nat) : Nat := xor32 (xor32 (rotr 17 y) (rotr 19 y)) (shr32 10 y)
def nextW (ws : List Nat) : Nat :=
  add32 (add32 (add32 (ws.getD (ws.length - 16) 0) (sig0 (ws.getD (ws.length - 15) 0))) (ws.getD (ws.length - 7) 0)) (sig1 (ws.getD (ws.length - 2) 0))
def sched : Nat → List Nat → List Nat
  | 0, ws => ws
  | n + 1, ws => sched n (ws ++ [nextW ws])
/-- A word of a block. -/
def num32 : Nat → List UInt8 → Nat
  | v, [] => v
  | v, b :: l => num32 (v * 256 + b.toNat) l
def word (b : List UInt8) (i : Nat) : Nat := num32 0 ((b.drop (4 * i)).take 4)
def words (b : List UInt8) (n : Nat) : List Nat := (List.range n).map (word b)
def K256 : List Nat := [1116352408, 1899447441, 3049323471, 3921009573, 961987163, 1508970993, 2453635748, 2870763221, 3624381080, 310598401, 607225278, 1426881987, 1925078388, 2162078206, 2614888103, 3248222580, 3835390401, 4022224774, 264347078, 604807628, 770255983, 1249150122, 1555081692, 1996064986, 2554220882, 2821834349, 2952996808, 3210313671, 3336571891, 3584528711, 113926993, 338241895, 666307205, 773529912, 1294757372, 1396182291, 1695183700, 1986661051, 2177026350, 2456956037, 2730485921, 2820302411, 3259730800, 3345764771, 3516065817, 3600352804, 4094571909, 275423344, 430227734, 506948616, 659060556, 883997877, 958139571, 1322822218, 1537002063, 1747873779, 1955562222, 2024104815, 2227730452, 2361852424, 2428436474, 2756734187, 3204031479, 3329325298]
def H256 : List Nat := [1779033703, 3144134277, 1013904242, 2773480762, 1359893119, 2600822924, 528734635, 1541459225]

def rndU (k w e f g h : Nat) : Nat := add32 (add32 (add32 (add32 h (xor32 (xor32 (rotr 6 e) (rotr 11 e)) (rotr 25 e))) (xor32 (and32 e f) (and32 (not32 e) g))) k) w
def rndV (a b c : Nat) : Nat := add32 (xor32 (xor32 (rotr 2 a) (rotr 13 a)) (rotr 22 a)) (xor32 (xor32 (and32 a b) (and32 a c)) (and32 b c))
def rnd (k w : Nat) : List Nat → List Nat
  | [a, b, c, d, e, f, g, h] => [add32 (rndU k w e f g h) (rndV a b c), a, b, c, add32 d (rndU k w e f g h), e, f, g]
  | l => l
def rnds : List Nat → List Nat → List Nat → List Nat
  | k :: ks, w :: ws, r => rnds ks ws (rnd k w r)
  | _, _, r => r
def compress (h : List Nat) (b : List UInt8) : List Nat := List.zipWith add32 (rnds K256 (sched 48 (words b 16)) h) h
def chain : Nat → List Nat → List UInt8 → List Nat
  | 0, h, _ => h
  | n + 1, h, m => chain n (compress h (m.take 64)) (m.drop 64)
def bytesBE : Nat → Nat → List UInt8
  | 0, _ => []
  | k + 1, v => UInt8.ofNat (v / 2 ^ (8 * k)) :: bytesBE k v
def pad (s : List UInt8) : List UInt8 := s ++ 128 :: (List.replicate ((119 - s.length % 64) % 64) 0 ++ bytesBE 8 (8 * s.length))
def digest (h : List Nat) : List UInt8 := (List.range 32).map fun i => UInt8.ofNat (shr32 (24 - 8 * (i % 4)) (h.getD (i / 4) 0))
def sha (s : List UInt8) : List UInt8 := digest (chain ((pad s).length / 64) H256 (pad s))

end Go.Esc
