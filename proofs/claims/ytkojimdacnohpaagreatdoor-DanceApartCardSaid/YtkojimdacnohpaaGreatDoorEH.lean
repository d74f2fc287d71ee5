import Derived.Test.YtkojimdacnohpaaGreatDoorEG
set_option linter.unusedSimpArgs false
set_option linter.unusedVariables false
namespace Go.Esc
open Go Go.RowKit
section
variable {P:Program}{T:Tbl} (hT:gF P T)
theorem ov {s:Sem Value}{u:Value}{w w':World}(h:s.run P w=.ok u w'):(do pure (.value (<- s)):Sem Next).run P w=.ok (.value u) w':=by
  simp[h]
include hT in
theorem FM {B:lq}{G:ak}{w:World}(hr:Rel B G w) {env:Env}{a:Act}(he:ny env a.tmps) {o:Oper}{v:ah}(h:mX T env G o.op=some v) :
  (execOp a.eval o).run P w=.ok (.value (cv v)) w:=by
 obtain⟨dst,op,ty,pos,after,guard⟩:=o;simp only at h;cases op<;>simp only[mX]at h<;>try (cases h;done)
 case move x=>simp only[execOp,Sem.run_pure,dr he h]
 case assign x=>simp only[execOp,Sem.run_pure,dr he h]
 case pick c x y=>
  split at h
  ·rename_i u hu;unfold K6 at h;split at h
   ·rename_i t;simp only[execOp,dr he hu,cv,asBool,Sem.run_bind,Sem.run_pure,Result.andThen_ok];cases t
    ·simp only[cond_false]at h;simp[dr he h]
    ·simp only[cond_true]at h;simp[dr he h]
   ·cases h
  ·cases h
 case load t x=>
  split at h
  ·rename_i u hu;simp only[execOp,dr he hu];exact ov (yb hT hr h)
  ·cases h
 case nilCheck x=>
  split at h
  ·rename_i u hu;simp only[execOp,dr he hu];unfold lr at h;split at h<;>first
    | (injection h with h;subst h;simp[cv];done)
    | cases h
  ·cases h
 case binOp op t x y yt=>
  split at h
  ·rename_i u1 u2 h1 h2;cases hg:KK T op t x y with
   | false=>rw[hg]at h;cases h
   | true=>
    rw[hg]at h;simp only[cond_true]at h;simp only[execOp,dr he h1,dr he h2];refine ov ?_;rw[Sem.run_bind,Bo hT hg h w];exact E7 hT h w
  ·cases h
 case unOp op t x=>
  split at h
  ·rename_i u hu;simp only[execOp,dr he hu];exact ov (Hr h w)
  ·cases h
 case convert s d x=>
  split at h
  ·rename_i u hu;simp only[execOp,dr he hu];exact ov (DD hT hr h)
  ·cases h
 case makeInterface t x=>
  split at h
  ·rename_i u i hu hi;by_cases hd:i.desc=.iface
   ·simp[hd]at h
   ·simp only[hd,decide_false,cond_false]at h;injection h with h;subst h;obtain⟨ds,h1,h2⟩:=(hT t i hi).und;simp only[execOp,dr he hu];refine ov ?_;simp only[Instr.makeInterface,Sem.run_bind,run_underlying h1,Result.andThen_ok,cv];cases ds<;>first
     | (exfalso;exact hd h2.symm)
     | simp
  ·cases h
 case makeFunc fn first captured=>
  split at h
  ·rename_i u1 u2 h1 h2;injection h with h;subst h;simp only[execOp,Instr.makeFunc,um he h1,um he h2,cv];exact ov rfl
  ·cases h
 case slice t x lo hi mx=>
  split at h
  ·rename_i u l hh m h1 h2 h3 h4;simp only[execOp,dr he h1,xJ he h2,xJ he h3,xJ he h4];exact ov (CA hT h w)
  ·cases h
 case fieldAddr s x f=>
  split at h
  ·rename_i u hu;simp only[execOp,dr he hu];exact ov (CE hT h w)
  ·cases h
 case field t x f=>
  split at h
  ·rename_i u hu;simp only[execOp,dr he hu];exact ov (CD hT h w)
  ·cases h
 case indexAddr t x i=>
  split at h
  ·rename_i u1 u2 h1 h2;simp only[execOp,dr he h1,dr he h2];exact ov (CC hT h w)
  ·cases h
 case index t x i=>
  split at h
  ·rename_i u1 u2 h1 h2;simp only[execOp,dr he h1,dr he h2];exact ov (CB hT h w)
  ·cases h
 case extract x k=>
  split at h
  ·rename_i u hu;simp only[execOp,dr he hu];refine ov ?_;unfold aP at h;split at h
   ·rename_i vs;simp[Instr.extract,cv,vv,h]
   ·cases h
  ·cases h
 case lookup t m k ok=>
  split at h
  ·rename_i u1 u2 h1 h2;simp only[execOp,dr he h1,dr he h2];exact ov (Be hT hr h)
  ·cases h
 case build t parts=>
  split at h
  ·rename_i ps hps;simp only[execOp];refine ov ?_;have:=CF (P:=P) hT h w;rw[<- xH he hps]at this;rw[<- this];congr 2;apply Array.ext';simp
  ·cases h
 case call c=>
  obtain⟨callee,args,ats⟩:=c;simp only at h;cases callee with
  | value f=>simp at h
  | invoke r m=>simp at h
  | builtin b=>
   cases b<;>simp only at h<;>try (cases h;done)
   case len=>
    split at h
    ·rename_i x t hx ht;split at h
     ·rename_i u hu;have e1:args=#[x]:=Array.ext' (by simpa using hx);have e2:ats=#[t]:=Array.ext' (by simpa using ht);subst e1;subst e2;simp only[execOp,resolve,invoke,Sem.run_bind,Sem.run_pure,Result.andThen_ok,builtin];have:=E3 (P:=P) hT hr (ty:=ty) h;simp[dr he hu,this]
     ·cases h
    ·cases h
   case cap=>
    split at h
    ·rename_i x t hx ht;split at h
     ·rename_i u hu;have e1:args=#[x]:=Array.ext' (by simpa using hx);have e2:ats=#[t]:=Array.ext' (by simpa using ht);subst e1;subst e2;simp only[execOp,resolve,invoke,Sem.run_bind,Sem.run_pure,Result.andThen_ok,builtin];have:=E6 (P:=P) hT (ty:=ty) (w:=w) h;simp[dr he hu,this]
     ·cases h
    ·cases h
   case min=>
    split at h
    ·rename_i x y hx;split at h
     ·rename_i u1 u2 h1 h2;have e1:args=#[x,y]:=Array.ext' (by simpa using hx);subst e1;simp only[execOp,resolve,invoke,Sem.run_bind,Sem.run_pure,Result.andThen_ok,builtin];have:=DA (P:=P) (ty:=ty) (ts:=ats) (w:=w) h;simp[dr he h1,dr he h2,this]
     ·cases h
    ·cases h
   case max=>
    split at h
    ·rename_i x y hx;split at h
     ·rename_i u1 u2 h1 h2;have e1:args=#[x,y]:=Array.ext' (by simpa using hx);subst e1;simp only[execOp,resolve,invoke,Sem.run_bind,Sem.run_pure,Result.andThen_ok,builtin];have:=DB (P:=P) (ty:=ty) (ts:=ats) (w:=w) h;simp[dr he h1,dr he h2,this]
     ·cases h
    ·cases h
end
end Go.Esc
