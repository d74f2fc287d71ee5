import Derived.Test.YtkojimdacnohpaaGreatDoorEV
import Derived.IntWalk
set_option linter.unusedSimpArgs false
set_option linter.unusedVariables false
namespace Go.Esc
open Go Go.RowKit
theorem aa (v:ah) (K:ah->Prop):wv (some v) K=K v:=rfl
theorem jl (G:ak) (K:ak->Prop):wg (some G) K=K G:=rfl
theorem aI (c:Prop) [Decidable c] (p q:Prop):brB (some (.bool (decide c))) p q ↔ (c->p)/\(¬c->q):=by
 by_cases h:c<;>simp[brB,h]
theorem dC (c:Prop) [Decidable c] (p q:Prop):brB (some (.bool (!decide c))) p q ↔ (¬c->p)/\(c->q):=by
 by_cases h:c<;>simp[brB,h]
theorem aN (p q:Prop):brB (some (.bool true)) p q=p:=rfl
theorem aK (p q:Prop):brB (some (.bool false)) p q=q:=rfl
theorem gO (b:Bool) (p q:Prop):brB (some (.bool b)) p q ↔ (b=true->p)/\(b=false->q):=by cases b<;>simp[brB]
section
variable (T:Tbl) (t:TypeId) (k:IntKind) (a b:Int)
theorem bg:az T .add t (.int k a) (.int k b)=some (.int k (k.wrap (a+b))):=by simp[az,sX]
theorem b7:az T .sub t (.int k a) (.int k b)=some (.int k (k.wrap (a-b))):=by simp[az,sX]
theorem kP:az T .mul t (.int k a) (.int k b)=some (.int k (k.wrap (a * b))):=by simp[az,sX]
theorem zw (h:b≠0):az T .quo t (.int k a) (.int k b)=some (.int k (k.wrap (a.tdiv b))):=by simp[az,sX,h]
theorem q9 (h:b≠0):az T .rem t (.int k a) (.int k b)=some (.int k (a.tmod b)):=by simp[az,sX,h]
theorem sY:az T .and t (.int k a) (.int k b)=some (.int k (k.wrap (BitVec.ofInt k.bits a &&& BitVec.ofInt k.bits b).toNat)):=by simp[az,sX]
theorem Gp:az T .or t (.int k a) (.int k b)=some (.int k (k.wrap (BitVec.ofInt k.bits a ||| BitVec.ofInt k.bits b).toNat)):=by simp[az,sX]
theorem DF:az T .xor t (.int k a) (.int k b)=some (.int k (k.wrap (BitVec.ofInt k.bits a ^^^ BitVec.ofInt k.bits b).toNat)):=by simp[az,sX]
theorem bB:az T .eql t (.int k a) (.int k b)=some (.bool (decide (a=b))):=by simp[az,sX]
theorem cD:az T .neq t (.int k a) (.int k b)=some (.bool (!decide (a=b))):=by simp[az,sX]
theorem aM:az T .lss t (.int k a) (.int k b)=some (.bool (decide (a < b))):=by simp[az,sX]
theorem kQ:az T .leq t (.int k a) (.int k b)=some (.bool (decide (a≤b))):=by simp[az,sX]
theorem da:az T .gtr t (.int k a) (.int k b)=some (.bool (decide (b < a))):=by simp[az,sX]
theorem fI:az T .geq t (.int k a) (.int k b)=some (.bool (decide (b≤a))):=by simp[az,sX]
theorem zv (k':IntKind) (h:0≤b):az T .shl t (.int k a) (.int k' b)=some (.int k (k.wrap (a * 2 ^ min b.toNat k.bits))):=by
 have:¬ b < 0:=by omega
 simp[az,wR,this]
theorem nB (k':IntKind) (h:0≤b):az T .shr t (.int k a) (.int k' b)=some (.int k (a.fdiv (2 ^ min b.toNat k.bits))):=by
 have:¬ b < 0:=by omega
 simp[az,wR,this]
theorem tM {x y:List UInt8}(h:x.length+y.length≤9223372036854775807):az T .add t (.str x) (.str y)=some (.str (x++y)):=by simp[az,E1,h]
theorem pL (x y:List UInt8):az T .eql t (.str x) (.str y)=some (.bool (decide (x=y))):=by simp[az,E1]
theorem wS (x y:List UInt8):az T .neq t (.str x) (.str y)=some (.bool (!decide (x=y))):=by simp[az,E1]
theorem dx (x:Bool):vun .not (.bool x)=some (.bool (!x)):=rfl
theorem Gl:vun .neg (.int k a)=some (.int k (k.wrap (0-a))):=rfl
theorem K1 (x:ah) (l:List ah):aP (.tuple (x :: l)) 0=some x:=rfl
theorem K0 (x y:ah) (l:List ah):aP (.tuple (x :: y :: l)) 1=some y:=rfl
end
theorem i64_in {n:Int}(h0:-9223372036854775808≤n) (h1:n≤9223372036854775807):IntKind.i64.wrap n=n:=IntWalk.i64_in n ⟨h0,h1⟩
theorem u8_in {n:Int}(h0:0≤n) (h1:n≤255):IntKind.u8.wrap n=n:=IntWalk.u8_in n ⟨h0,h1⟩
theorem u16_in {n:Int}(h0:0≤n) (h1:n≤65535):IntKind.u16.wrap n=n:=IntWalk.u16_in n ⟨h0,h1⟩
theorem u32_in {n:Int}(h0:0≤n) (h1:n≤4294967295):IntKind.u32.wrap n=n:=IntWalk.u32_in n ⟨h0,h1⟩
theorem u64_in {n:Int}(h0:0≤n) (h1:n≤18446744073709551615):IntKind.u64.wrap n=n:=IntWalk.u64_in n ⟨h0,h1⟩
def I64 (n:Int):Prop:=-9223372036854775808≤n/\n≤9223372036854775807
theorem I64.wrap {n:Int}(h:I64 n):IntKind.i64.wrap n=n:=i64_in h.1 h.2
theorem vt {n:Int}:(Lit.int .i64 n).wf=true ↔ I64 n:=by
 simp[Lit.wf,I64,IntKind.min,IntKind.max,IntKind.signed,IntKind.bits]
theorem Me {n:Int}:(Lit.int .u8 n).wf=true ↔ 0≤n/\n≤255:=by
 simp[Lit.wf,IntKind.min,IntKind.max,IntKind.signed,IntKind.bits]
attribute [simp] aa jl aI dC aN aK gO bg b7 kP bB cD aM kQ da fI pL wS dx Gl K1 K0
end Go.Esc
