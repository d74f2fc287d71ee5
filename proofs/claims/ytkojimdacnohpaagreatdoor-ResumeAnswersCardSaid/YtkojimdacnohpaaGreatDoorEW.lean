import Derived.Test.YtkojimdacnohpaaGreatDoorEV
import Derived.IntWalk
set_option linter.unusedSimpArgs false
set_option linter.unusedVariables false
namespace Go.Esc
open Go Go.RowKit
theorem aa (v:ag) (K:ag -> Prop):wv (some v) K = K v:=rfl
theorem iI (G:ah) (K:ah -> Prop):wg (some G) K = K G:=rfl
theorem aE (c:Prop) [Decidable c] (p q:Prop):brB (some (.bool (decide c))) p q ↔ (c -> p) /\ (¬c -> q):=by
 by_cases h:c <;> simp [brB,h]
theorem fg (c:Prop) [Decidable c] (p q:Prop):brB (some (.bool (!decide c))) p q ↔ (¬c -> p) /\ (c -> q):=by
 by_cases h:c <;> simp [brB,h]
theorem aX (p q:Prop):brB (some (.bool true)) p q = p:=rfl
theorem aM (p q:Prop):brB (some (.bool false)) p q = q:=rfl
theorem iE (b:Bool) (p q:Prop):brB (some (.bool b)) p q ↔ (b = true -> p) /\ (b = false -> q):=by cases b <;> simp [brB]
section
variable (T:Tbl) (t:TypeId) (k:IntKind) (a b:Int)
theorem wi:aw T .add t (.int k a) (.int k b) = some (.int k (k.wrap (a + b))):=by simp [aw,rK]
theorem bS:aw T .sub t (.int k a) (.int k b) = some (.int k (k.wrap (a - b))):=by simp [aw,rK]
theorem jL:aw T .mul t (.int k a) (.int k b) = some (.int k (k.wrap (a * b))):=by simp [aw,rK]
theorem yh (h:b ≠ 0):aw T .quo t (.int k a) (.int k b) = some (.int k (k.wrap (a.tdiv b))):=by simp [aw,rK,h]
theorem qg (h:b ≠ 0):aw T .rem t (.int k a) (.int k b) = some (.int k (a.tmod b)):=by simp [aw,rK,h]
theorem rL:aw T .and t (.int k a) (.int k b) = some (.int k (k.wrap (BitVec.ofInt k.bits a &&& BitVec.ofInt k.bits b).toNat)):=by simp [aw,rK]
theorem E8:aw T .or t (.int k a) (.int k b) = some (.int k (k.wrap (BitVec.ofInt k.bits a ||| BitVec.ofInt k.bits b).toNat)):=by simp [aw,rK]
theorem Ct:aw T .xor t (.int k a) (.int k b) = some (.int k (k.wrap (BitVec.ofInt k.bits a ^^^ BitVec.ofInt k.bits b).toNat)):=by simp [aw,rK]
theorem bC:aw T .eql t (.int k a) (.int k b) = some (.bool (decide (a = b))):=by simp [aw,rK]
theorem dy:aw T .neq t (.int k a) (.int k b) = some (.bool (!decide (a = b))):=by simp [aw,rK]
theorem aH:aw T .lss t (.int k a) (.int k b) = some (.bool (decide (a < b))):=by simp [aw,rK]
theorem jl:aw T .leq t (.int k a) (.int k b) = some (.bool (decide (a ≤ b))):=by simp [aw,rK]
theorem de:aw T .gtr t (.int k a) (.int k b) = some (.bool (decide (b < a))):=by simp [aw,rK]
theorem gq:aw T .geq t (.int k a) (.int k b) = some (.bool (decide (b ≤ a))):=by simp [aw,rK]
theorem yg (k':IntKind) (h:0 ≤ b):aw T .shl t (.int k a) (.int k' b) = some (.int k (k.wrap (a * 2 ^ min b.toNat k.bits))):=by
 have:¬ b < 0:=by omega
 simp [aw,vt,this]
theorem l9 (k':IntKind) (h:0 ≤ b):aw T .shr t (.int k a) (.int k' b) = some (.int k (a.fdiv (2 ^ min b.toNat k.bits))):=by
 have:¬ b < 0:=by omega
 simp [aw,vt,this]
theorem sq {x y:List UInt8} (h:x.length + y.length ≤ 9223372036854775807):aw T .add t (.str x) (.str y) = some (.str (x ++ y)):=by simp [aw,DR,h]
theorem oW (x y:List UInt8):aw T .eql t (.str x) (.str y) = some (.bool (decide (x = y))):=by simp [aw,DR]
theorem vu (x y:List UInt8):aw T .neq t (.str x) (.str y) = some (.bool (!decide (x = y))):=by simp [aw,DR]
theorem fN (x:Bool):vun .not (.bool x) = some (.bool (!x)):=rfl
theorem E5:vun .neg (.int k a) = some (.int k (k.wrap (0 - a))):=rfl
theorem Ka (x:ag) (l:List ag):aW (.tuple (x :: l)) 0 = some x:=rfl
theorem J9 (x y:ag) (l:List ag):aW (.tuple (x :: y :: l)) 1 = some y:=rfl
end
theorem i64_in {n:Int} (h0:-9223372036854775808 ≤ n) (h1:n ≤ 9223372036854775807):IntKind.i64.wrap n = n:=IntWalk.i64_in n ⟨h0,h1⟩
theorem u8_in {n:Int} (h0:0 ≤ n) (h1:n ≤ 255):IntKind.u8.wrap n = n:=IntWalk.u8_in n ⟨h0,h1⟩
theorem u16_in {n:Int} (h0:0 ≤ n) (h1:n ≤ 65535):IntKind.u16.wrap n = n:=IntWalk.u16_in n ⟨h0,h1⟩
theorem u32_in {n:Int} (h0:0 ≤ n) (h1:n ≤ 4294967295):IntKind.u32.wrap n = n:=IntWalk.u32_in n ⟨h0,h1⟩
theorem u64_in {n:Int} (h0:0 ≤ n) (h1:n ≤ 18446744073709551615):IntKind.u64.wrap n = n:=IntWalk.u64_in n ⟨h0,h1⟩
def I64 (n:Int):Prop:=-9223372036854775808 ≤ n /\ n ≤ 9223372036854775807
theorem I64.wrap {n:Int} (h:I64 n):IntKind.i64.wrap n = n:=i64_in h.1 h.2
theorem ri {n:Int}:(Lit.int .i64 n).wf = true ↔ I64 n:=by
 simp [Lit.wf,I64,IntKind.min,IntKind.max,IntKind.signed,IntKind.bits]
theorem LB {n:Int}:(Lit.int .u64 n).wf = true ↔ 0 ≤ n /\ n ≤ 18446744073709551615:=by
 simp [Lit.wf,IntKind.min,IntKind.max,IntKind.signed,IntKind.bits]
theorem K6 {n:Int}:(Lit.int .u8 n).wf = true ↔ 0 ≤ n /\ n ≤ 255:=by
 simp [Lit.wf,IntKind.min,IntKind.max,IntKind.signed,IntKind.bits]
attribute [simp] aa iI aE fg aX aM iE wi bS jL bC dy aH jl de gq oW vu fN E5 Ka J9
end Go.Esc
