import Derived.Test.YtkojimdacnohpaaGreatDoorLFb
set_option linter.unusedSimpArgs false
set_option linter.unusedVariables false
set_option maxRecDepth 20000
namespace Go.Esc.M
open Go Go.Esc
structure cr where
 kind:Int
 id:Int
 amount:Int
 index:Int
 next:Int
 hash:List UInt8
 secret:List UInt8
 note:List UInt8
 deriving DecidableEq
def cr.cs (u:cr):List ah:=[.int .i64 u.kind,.int .i64 u.id,.int .i64 u.amount,.int .i64 u.index,.int .i64 u.next,.agg (u.hash.map u8v),.agg (u.secret.map u8v),.str u.note]
def cr.av (u:cr):ah:=.agg u.cs
def cr.zero:cr:=⟨0,0,0,0,0,h0,h0,[]⟩
structure cr.ok (u:cr):Prop where
 kind:I64 u.kind
 id:I64 u.id
 amount:I64 u.amount
 index:I64 u.index
 next:I64 u.next
 hash:u.hash.length=32
 secret:u.secret.length=32
 note:u.note.length≤9223372036854775807
theorem cr.bq:cr.zero.ok:=⟨cL,cL,cL,cL,cL,rfl,rfl,by decide⟩
theorem cr.sz {u:cr}(h:u.ok):Esc.sz u.av=70:=by simp[cr.av,cr.cs,Esc.sz,szs,szh h.hash,szh h.secret]
theorem cr.fits {u:cr}(h:u.ok):dD il u.av=true:=by
 have h1:=cr.sz h
 have h2:u.av.isAgg=true:=rfl
 simp[dD,h1,h2,il,kZ.isAgg]
theorem cr.okv (u:cr):Esc.okv u.av=true:=by simp[cr.av,cr.cs,Esc.okv,mz,kM]
theorem EW:jF=cr.zero.av:=rfl
section
variable {F0:List AId}{G0 G:ak}{ps:List LP}{i:Nat}{id:AId}{u:cr}{Q:ah->ak->Prop}
theorem gx (hs:Sp F0 G0 ps G) (hi:ps[i]?=some (au id u.av)) (h:u.ok) :
  ag T G ay (.ptr id [0] 0)=some (.int .i64 u.kind)/\ag T G aq (.ptr id [1] 1)=some (.int .i64 u.id)/\ag T G aq (.ptr id [2] 2)=some (.int .i64 u.amount)/\ag T G aq (.ptr id [3] 3)=some (.int .i64 u.index) ∧
  ag T G aq (.ptr id [4] 4)=some (.int .i64 u.next)/\ag T G ar (.ptr id [5] 5)=some (.agg (u.hash.map u8v))/\ag T G ar (.ptr id [6] 37)=some (.agg (u.secret.map u8v))/\ag T G bH (.ptr id [7] 69)=some (.str u.note)/\ag T G aW (.ptr id [] 0)=some u.av:=by
 have hg:=au.own hs hi
 refine⟨dI (c:=.int .i64 u.kind) hg rfl rfl rfl iD rfl,dI (c:=.int .i64 u.id) hg rfl rfl rfl cu rfl,dI (c:=.int .i64 u.amount) hg rfl rfl rfl cu rfl,dI (c:=.int .i64 u.index) hg rfl rfl rfl cu rfl,dI (c:=.int .i64 u.next) hg rfl rfl rfl cu rfl,
  dI (c:=.agg (u.hash.map u8v)) hg rfl rfl rfl bZ (gm h.hash),dI (c:=.agg (u.secret.map u8v)) hg rfl ?_ rfl bZ (gm h.secret),dI (c:=.str u.note) hg rfl ?_ rfl fS rfl,cj eQ hg (cr.fits h)⟩
 ·simp[cr.cs,szs,Esc.sz,szh h.hash]
 ·simp[cr.cs,szs,Esc.sz,szh h.hash,szh h.secret]
theorem nK {u':cr}(hs:Sp F0 G0 ps G) (hi:ps[i]?=some (au id u.av)) (h:u.ok) (h':u'.ok) {K:ak->Prop}(hK:∀ G',Sp F0 G0 (ps.set i (au id u'.av)) G'->K G'):wg (aF T G aW (.ptr id [] 0) u'.av) K:=by
 refine fg (ig eQ (au.own hs hi) (cr.fits h') (by rw[cr.sz h,cr.sz h']) (cr.okv _)) ?_
 exact hK _ (Sp.setRow hs hi _)
theorem HM (n:Int) (hs:Sp F0 G0 ps G) (hi:ps[i]?=some (au id u.av)) {K:ak->Prop}(hK:∀ G',Sp F0 G0 (ps.set i (au id ({ u with index:=n }:cr).av)) G'->K G'):wg (aF T G aq (.ptr id [3] 3) (.int .i64 n)) K:=by
 refine fg (mG (c:=.int .i64 n) (u:=.int .i64 u.index) (au.own hs hi) rfl rfl cu rfl rfl rfl) ?_
 exact hK _ (Sp.setRow hs hi _)
theorem Jg {n:List UInt8}(hn:n.length=32) (h:u.ok) (hs:Sp F0 G0 ps G) (hi:ps[i]?=some (au id u.av)) {K:ak->Prop}(hK:∀ G',Sp F0 G0 (ps.set i (au id ({ u with hash:=n }:cr).av)) G'->K G'):wg (aF T G ar (.ptr id [5] 5) (.agg (n.map u8v))) K:=by
 refine fg (mG (c:=.agg (n.map u8v)) (u:=.agg (u.hash.map u8v)) (au.own hs hi) rfl rfl bZ (gm hn) (by simp[Esc.sz,szh hn,szh h.hash]) (by simp[Esc.okv,kM])) ?_
 exact hK _ (Sp.setRow hs hi _)
def Bw (m:cr):aL:=⟨m.kind,m.id,m.amount,m.hash,m.note⟩
def GL (u:aL):cr:=⟨u.kind,u.id,u.amount,0,0,u.hash,h0,u.note⟩
theorem vF {m:cr}(h:m.ok):(Bw m).ok:=MI h.kind h.id h.amount h.hash h.note
theorem vY {u:aL}(h:u.ok):(GL u).ok:=⟨h.kind,h.id,h.amount,cL,cL,h.hash,rfl,h.note⟩
end
end Go.Esc.M
namespace Go.Esc.M
open Go Go.Esc
section
variable {F0:List AId}{G0 G:ak}{ps:List LP}{i:Nat}{id:AId}{u:cr}{Q:ah->ak->Prop}
end
end Go.Esc.M
namespace Go.Esc.M
open Go Go.Esc
section
variable {F0:List AId}{G0 G:ak}{ps:List LP}{Q:ah->ak->Prop}
end
end Go.Esc.M
namespace Go.Esc.M
open Go Go.Esc
def isK (m:cr):Prop:=m.kind=1\/m.kind=2\/m.kind=3
instance (m:cr):Decidable (isK m):=inferInstanceAs (Decidable (_\/_\/_))
section
variable {F0:List AId}{G0 G:ak}{ps:List LP}{Q:ah->ak->Prop}
end
end Go.Esc.M
namespace Go.Esc.M
open Go Go.Esc
section
variable {F0:List AId}{G0 G:ak}{ps:List LP}{Q:ah->ak->Prop}
end
end Go.Esc.M
namespace Go.Esc.M
open Go Go.Esc
section
variable {F0:List AId}{G0 G:ak}{ps:List LP}{Q:ah->ak->Prop}
end
end Go.Esc.M
namespace Go.Esc.M
open Go Go.Esc
section
variable {F0:List AId}{G0 G:ak}{ps:List LP}{Q:ah->ak->Prop}
end
end Go.Esc.M
namespace Go.Esc.M
open Go Go.Esc
end Go.Esc.M
namespace Go.Esc.M
open Go Go.Esc
end Go.Esc.M
namespace Go.Esc.M
open Go Go.Esc
section
variable {F0:List AId}{G0 G:ak}{ps:List LP}{Q:ah->ak->Prop}
end
end Go.Esc.M
namespace Go.Esc.M
open Go Go.Esc
section
variable {F0:List AId}{G0 G:ak}{ps:List LP}{Q:ah->ak->Prop}
end
end Go.Esc.M
namespace Go.Esc.M
open Go Go.Esc
end Go.Esc.M
namespace Go.Esc.M
open Go Go.Esc
section
variable {F0:List AId}{G0 G:ak}{ps:List LP}{Q:ah->ak->Prop}
end
end Go.Esc.M
namespace Go.Esc.M
open Go Go.Esc
section
variable {F0:List AId}{G0 G:ak}{ps:List LP}{Q:ah->ak->Prop}
end
end Go.Esc.M
namespace Go.Esc.M
open Go Go.Esc
def hx:List UInt8:=[49,50,51,52,53,54,55,56,57,48,49,50,51,52,53,54,55,56,57,48,49,50,51,52,53,54,55,56,57,48,49,50]
def b4:List UInt8:=[4,0,0,0,0,0,0,1,2]++hx
def m4:cr:=⟨4,0,0,258,0,hx,h0,[]⟩
def m7:cr:=⟨7,0,0,3,0,h0,h0,[]⟩
section
variable {F0:List AId}{G0 G:ak}{ps:List LP}{Q:ah->ak->Prop}
end
end Go.Esc.M
namespace Go.Esc.M
open Go Go.Esc
end Go.Esc.M
namespace Go.Esc.M
open Go Go.Esc
end Go.Esc.M
