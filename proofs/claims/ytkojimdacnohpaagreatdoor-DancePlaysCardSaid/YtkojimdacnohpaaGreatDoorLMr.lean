import Derived.Test.YtkojimdacnohpaaGreatDoorLMb
import Derived.Test.YtkojimdacnohpaaGreatDoorLFc
import Derived.Test.YtkojimdacnohpaaGreatDoorLHb
set_option linter.unusedSimpArgs false
set_option linter.unusedVariables false
set_option maxRecDepth 20000
namespace Go.Esc.M
open Go Go.Esc
theorem KM {p p':cr}(h:p.ok) (h':p'.ok):eqF T (kV T 8) [(ay,0),(aq,1),(aq,2),(aq,3),(aq,4),(ar,5),(ar,37),(bH,69)] p.cs p'.cs 0=some (decide (p=p')):=by
 have z1:=gm h.hash
 have z2:=gm h'.hash
 have z3:=gm h.secret
 have z4:=gm h'.secret
 have q2:∀ m n:Int,kV T 8 aq (.int .i64 m) (.int .i64 n)=some (decide (m=n)):=fun m n=>by
  rw[kV];simp only[cu];rfl
 have q1:∀ m n:Int,kV T 8 ay (.int .i64 m) (.int .i64 n)=some (decide (m=n)):=fun m n=>by
  rw[kV];simp only[iD];rfl
 have q4:∀ m n:List UInt8,kV T 8 bH (.str m) (.str n)=some (decide (m=n)):=fun m n=>by
  rw[kV];simp only[fS];rfl
 have v1:∀ m:Int,dD nc (.int .i64 m)=true:=fun m=>rfl
 have v2:∀ m:Int,dD iZ (.int .i64 m)=true:=fun m=>rfl
 have v4:∀ m:List UInt8,dD iO (.str m)=true:=fun m=>rfl
 have s1:nc.size=1:=rfl
 have s2:iZ.size=1:=rfl
 have s3:dQ.size=32:=rfl
 have q3:=zu h.hash h'.hash
 have q5:=zu h.secret h'.secret
 obtain⟨a,b,c,d,e,f,g,i⟩:=p
 obtain⟨a',b',c',d',e',f',g',i'⟩:=p'
 dsimp only at z1 z2 z3 z4 q3 q5
 simp only[cr.cs,eqF,iD,cu,bZ,fS,v1,v2,v4,z1,z2,z3,z4,s1,s2,s3,Nat.zero_add,q1,q2,q3,q4,q5,beq_self_eq_true,Bool.and_self,Nat.reduceAdd,if_true]
 by_cases h1:a=a'
 ·subst h1
  by_cases h2:b=b'
  ·subst h2
   by_cases h3:c=c'
   ·subst h3
    by_cases h4:d=d'
    ·subst h4
     by_cases h5:e=e'
     ·subst h5
      by_cases h6:f=f'
      ·subst h6
       by_cases h7:g=g'
       ·subst h7
        by_cases h8:i=i'
        ·subst h8;simp
        ·simp[h8]
       ·simp[h7]
      ·simp[h6]
     ·simp[h5]
    ·simp[h4]
   ·simp[h3]
  ·simp[h2]
 ·simp[h1]
theorem Kd {p p':cr}(h:p.ok) (h':p'.ok):kV T 9 aW p.av p'.av=some (decide (p=p')):=by
 rw[<- KM h h',kV]
 have e1:il.desc=.struct [(ay,0),(aq,1),(aq,2),(aq,3),(aq,4),(ar,5),(ar,37),(bH,69)]:=rfl
 simp only[eQ,e1]
 rfl
theorem Bt {p p':cr}(h:p.ok) (h':p'.ok):az T .eql aW p.av p'.av=some (.bool (decide (p=p'))):=by
 have:=Kd h h'
 unfold cr.av at this ⊢
 simp only[az,this]
section
variable {F0:List AId}{G0 G:ak}{ps:List LP}{Q:ah->ak->Prop}
end
end Go.Esc.M
namespace Go.Esc.M
open Go Go.Esc
def isK (m:cr):Prop:=m.kind=1\/m.kind=2\/m.kind=3
instance (m:cr):Decidable (isK m):=inferInstanceAs (Decidable (_\/_\/_))
section
variable {F0:List AId}{G0 G:ak}{ps:List LP}{Q:ah->ak->Prop}
end
end Go.Esc.M
namespace Go.Esc.M
open Go Go.Esc
section
variable {F0:List AId}{G0 G:ak}{ps:List LP}{Q:ah->ak->Prop}
end
end Go.Esc.M
namespace Go.Esc.M
open Go Go.Esc
section
variable {F0:List AId}{G0 G:ak}{ps:List LP}{Q:ah->ak->Prop}
end
end Go.Esc.M
namespace Go.Esc.M
open Go Go.Esc
section
variable {F0:List AId}{G0 G:ak}{ps:List LP}{Q:ah->ak->Prop}
end
end Go.Esc.M
namespace Go.Esc.M
open Go Go.Esc
end Go.Esc.M
namespace Go.Esc.M
open Go Go.Esc
end Go.Esc.M
namespace Go.Esc.M
open Go Go.Esc
section
variable {F0:List AId}{G0 G:ak}{ps:List LP}{Q:ah->ak->Prop}
end
end Go.Esc.M
namespace Go.Esc.M
open Go Go.Esc
section
variable {F0:List AId}{G0 G:ak}{ps:List LP}{Q:ah->ak->Prop}
end
end Go.Esc.M
namespace Go.Esc.M
open Go Go.Esc
end Go.Esc.M
namespace Go.Esc.M
open Go Go.Esc
section
variable {F0:List AId}{G0 G:ak}{ps:List LP}{Q:ah->ak->Prop}
end
end Go.Esc.M
namespace Go.Esc.M
open Go Go.Esc
section
variable {F0:List AId}{G0 G:ak}{ps:List LP}{Q:ah->ak->Prop}
end
end Go.Esc.M
namespace Go.Esc.M
open Go Go.Esc
def hx:List UInt8:=[49,50,51,52,53,54,55,56,57,48,49,50,51,52,53,54,55,56,57,48,49,50,51,52,53,54,55,56,57,48,49,50]
def b4:List UInt8:=[4,0,0,0,0,0,0,1,2]++hx
def m4:cr:=⟨4,0,0,258,0,hx,h0,[]⟩
def m7:cr:=⟨7,0,0,3,0,h0,h0,[]⟩
section
variable {F0:List AId}{G0 G:ak}{ps:List LP}{Q:ah->ak->Prop}
end
end Go.Esc.M
namespace Go.Esc.M
open Go Go.Esc
end Go.Esc.M
namespace Go.Esc.M
open Go Go.Esc
end Go.Esc.M
namespace Go.Esc.M
open Go Go.Esc
end Go.Esc.M
