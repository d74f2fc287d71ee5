import Derived.Test.YtkojimdacnohpaaGreatDoorEX
set_option linter.unusedSimpArgs false
set_option linter.unusedVariables false
namespace Go.Esc
open Go Go.RowKit
def rowOf:ag -> Option AId
 | .slice id _ _ _ _ _=>some id
 | _=>none
def n6 (G G':ah):Prop:=∀ id t,G id = some (.ro t) -> G' id = some (.ro t)
theorem n6.refl (G:ah):n6 G G:=fun _ _ h=>h
theorem n6.trans {a b c:ah} (h:n6 a b) (k:n6 b c):n6 a c:=fun id t e=>k id t (h id t e)
theorem n6.of_le {a b:ah} (h:a.le b):n6 a b:=fun id t e=>h id _ e
def rG (n:Nat) (G:ah) (v:ag) (vs:List ag):Prop :=
 (∃ id p st off len cap t,v = .slice id p st off len cap /\ len ≤ cap /\ G id = some (.ro t) /\ fT G n v = some vs) \/ (v = .nilSlice /\ vs = [])
theorem rG.is {n:Nat} {G:ah} {v:ag} {vs:List ag} (h:rG n G v vs):fV n G v vs:=by
 rcases h with ⟨id,p,st,off,len,cap,t,rfl,_,_,h⟩ | h
 ·exact .inl ⟨_,_,_,_,_,_,rfl,h⟩
 ·exact .inr h
theorem Ec {n:Nat} {G G':ah} {id:AId} {p:List Nat} {st off len cap:Nat} (h:G' id = G id):fT G' n (.slice id p st off len cap) = fT G n (.slice id p st off len cap):=by
 simp only [fT,kg,mo,h]
theorem rG.mono {n:Nat} {G G':ah} {v:ag} {vs:List ag} (h:rG n G v vs) (hle:n6 G G'):rG n G' v vs:=by
 rcases h with ⟨id,p,st,off,len,cap,t,rfl,hlc,hg,h⟩ | h
 ·refine .inl ⟨id,p,st,off,len,cap,t,rfl,hlc,hle _ _ hg,?_⟩
  rw [Ec (G:=G) (by rw [hg,hle _ _ hg])]
  exact h
 ·exact .inr h
def Own (n:Nat) (G:ah) (v:ag) (vs:List ag):Prop :=
 (v = .nilSlice /\ vs = []) \/ ∃ id len cap cs,v = .slice id [] 0 0 len cap /\ G id = some (.own (.agg cs)) /\ cs.length = cap /\ len ≤ cap /\ uni n cs = true /\ vs = cs.take len
theorem Own.is {n:Nat} {G:ah} {v:ag} {vs:List ag} (h:Own n G v vs):fV n G v vs:=by
 rcases h with h | ⟨id,len,cap,cs,rfl,hg,hc,hl,hu,rfl⟩
 ·exact .inr h
 ·exact pv hg rfl hu (by omega)
theorem Own.uni {n:Nat} {G:ah} {v:ag} {vs:List ag} (h:Own n G v vs):uni n vs = true:=by
 rcases h with ⟨_,rfl⟩ | ⟨id,len,cap,cs,rfl,hg,hc,hl,hu,rfl⟩
 ·rfl
 ·exact jc hu _
structure Kept (s:ag) (G:ah) (s':ag) (G':ah):Prop where
 ro:n6 G G'
 others:∀ j o,G j = some o -> rowOf s ≠ some j -> G' j = some o
 row:∀ j,rowOf s' = some j -> rowOf s = some j \/ G j = none
theorem Own.mono {n:Nat} {G G':ah} {v s s':ag} {vs:List ag} (h:Own n G v vs) (hk:Kept s G s' G') (hne:∀ j,rowOf v = some j -> rowOf s ≠ some j):Own n G' v vs:=by
 rcases h with h | ⟨id,len,cap,cs,rfl,hg,h⟩
 ·exact .inl h
 ·exact .inr ⟨id,len,cap,cs,rfl,hk.others _ _ hg (hne _ rfl),h⟩
theorem kP {n:Nat} {a b:List ag} (ha:uni n a = true) (hb:uni n b = true):uni n (a ++ b) = true:=by
 simp only [Esc.uni,List.all_append,Bool.and_eq_true] at *
 exact ⟨ha,hb⟩
theorem mO {n k:Nat} {z:ag} (h:sz z = n):uni n (List.replicate k z) = true:=by
 simp [Esc.uni,h]
section
variable {T:Tbl} {ts e:TypeId} {si ie:TI} (ht:T ts = some si) (hd:si.desc = .slice e) (he:T e = some ie) (hz:sz ie.zero = ie.size) (hb:ie.bytes ≠ 0)
include ht hd he hz hb in
theorem q6 {tx:TypeId} {xi:TI} (htx:T tx = some xi) (hdx:xi.desc = .string \/ ∃ e',xi.desc = .slice e') {G:ah} {s x:ag} {olds vs:List ag} {K:ag -> ah -> Prop}
  (hs:Own ie.size G s olds) (hx:fT G ie.size x = some vs) (hu:uni ie.size vs = true) (hok:kT vs = true) (hsz:(olds.length + vs.length) * ie.bytes ≤ 140737488355328)
  (hK:∀ s' G',Own ie.size G' s' (olds ++ vs) -> Kept s G s' G' -> K s' G'):cc T G ts tx s x K:=by
 have hgrow:∀ (olds:List ag),uni ie.size olds = true -> (olds.length + vs.length) * ie.bytes ≤ 140737488355328 -> (∀ s' G',Own ie.size G' s' (olds ++ vs) -> Kept s G s' G' -> K s' G') -> grow ie G olds vs K:=by
  intro olds huo hsz hK
  refine ⟨hsz,hb,fun id cap hf hle hcap=>hK _ _ (.inr ⟨id,_,cap,_,rfl,ah.fc _ _ _,?_,hle,?_,?_⟩) ⟨n6.of_le (hf.le _),fun j o hj _=>hf.le _ _ _ hj,fun j hj=>?_⟩⟩
  ·simp; omega
  ·exact kP (kP huo hu) (mO hz)
  ·rw [List.take_left' (by simp)]
  ·simp only [rowOf,Option.some.injEq] at hj
   subst hj
   exact .inr hf.none
 refine ⟨?_⟩
 unfold qH
 simp only [ht,htx,hd,he,hx]
 refine ⟨hdx,?_⟩
 rcases hs with ⟨rfl,rfl⟩ | ⟨id,len,cap,cs,rfl,hg,hc,hl,huc,rfl⟩
 ·cases vs with
  | nil=>exact hK _ _ (.inl ⟨rfl,rfl⟩) ⟨n6.refl _,fun _ _ h _=>h,fun j hj=>by simp [rowOf] at hj⟩
  | cons v vs=>exact hgrow [] rfl hsz hK
 ·have hlen:(cs.take len).length = len:=by simp; omega
  have harr:kg G ie.size id [] 0 0 = some cs:=by
   simp [kg,mo,hg,kZ,sub,huc]
  refine ⟨fun hle=>?_,fun hlt=>?_⟩
  ·cases vs with
   | nil=>
    simp only [lay]
    exact hK _ _ (.inr ⟨id,len,cap,cs,by simp,hg,hc,hl,huc,by simp⟩) ⟨n6.refl _,fun _ _ h _=>h,fun j hj=>.inl hj⟩
   | cons v vs=>
    simp only [lay,harr]
    refine ⟨by omega,hok,hu,?_⟩
    have hput:p6 G id [] ie.size 0 0 (cs.take (0 + len) ++ (v :: vs) ++ cs.drop (0 + len + (v :: vs).length)) = some (G.upd id (.own (.agg (cs.take len ++ (v :: vs) ++ cs.drop (len + (v :: vs).length))))):=by
     simp [p6,hg,sub,putAt]
    rw [hput]
    refine hK _ _ (.inr ⟨id,_,cap,_,rfl,ah.fc _ _ _,?_,hle,?_,?_⟩) ⟨fun j t hj=>?_,fun j o hj hne=>?_,fun j hj=>.inl hj⟩
    ·simp at hle ⊢
     omega
    ·exact kP (kP (jc huc _) hu) (pg huc _)
    ·rw [List.take_left' (by simp; omega)]
    ·rw [ah.lF _ _ (fun h=>by subst h; rw [hg] at hj; cases hj)]
     exact hj
    ·rw [ah.lF _ _ (fun h=>hne (by rw [h]; rfl))]
     exact hj
  ·have hse:fT G ie.size (.slice id [] 0 0 len cap) = some (cs.take len):=by
    simp [fT,harr,hc,hl]
   rw [hse]
   exact hgrow _ (jc huc _) hsz hK
include ht hd he hz hb in
theorem B6 {G:ah} {s c:ag} {olds:List ag} {K:ag -> ah -> Prop} (hs:Own ie.size G s olds) (hc:sz c = ie.size) (hok:okv c = true) (hie:ie.size ≤ 16777216) (hsz:(olds.length + 1) * ie.bytes ≤ 140737488355328)
  (hK:∀ s' G',Own ie.size G' s' (olds ++ [c]) -> Kept s G s' G' -> K s' G'):bh T ts 1 [(0,c)] G fun v G'=>cc T G' ts ts s v K:=by
 unfold bh
 have hf:Md (fun k=>some (k * ie.size,ie.size)) (List.replicate 1 ie.zero) [(0,c)] = some [c]:=by
  simp [Md,hz,hc,szs]
 simp only [ht,hd,he,hf]
 refine ⟨by omega,fun id hfr=>?_⟩
 have hs':Own ie.size (G.upd id (.own (.agg [c]))) s olds:=by
  rcases hs with h | ⟨i',len,cap,cs,rfl,hg,h⟩
  ·exact .inl h
  ·exact .inr ⟨i',len,cap,cs,rfl,hfr.le _ _ _ hg,h⟩
 have huc:uni ie.size [c] = true:=by simp [Esc.uni,hc]
 refine q6 ht hd he hz hb ht (.inr ⟨e,hd⟩) hs' (x:=.slice id [] 0 0 1 1) (vs:=[c]) (pv (ah.fc _ _ _) rfl huc (by simp) |>.elems) huc (by simp [kT,hok]) (by simpa using hsz) fun s' G' ho hk=>hK s' G' ho ⟨?_,?_,?_⟩
 ·exact (n6.of_le (hfr.le _)).trans hk.ro
 ·exact fun j o hj hne=>hk.others _ _ (hfr.le _ _ _ hj) hne
 ·intro j hj
  rcases hk.row j hj with h | h
  ·exact .inl h
  ·refine .inr ?_
   by_cases e:j = id
   ·rw [e]; exact hfr.none
   ·rw [ah.lF _ _ e] at h; exact h
end
theorem iF {T:Tbl} {G:ah} {s d:TypeId} {si di:TI} {k k':IntKind} {n:Int} (hs:T s = some si) (hd:T d = some di) (hk:di.desc = .int k):gi T G s d (.int k' n) = some (.int k (k.wrap n)):=by
 simp [gi,hs,hd,hk]
section
variable {T:Tbl} {t e:TypeId} {i ie:TI} (ht:T t = some i) (hd:i.desc = .slice e) (he:T e = some ie)
theorem nE {len cap m:Nat} {k:IntKind} (h:m ≤ cap):jh len cap none (some (.int k m)) none = some (0,m,cap):=by
 have h0:(0:Int) ≤ m /\ (m:Int) ≤ cap:=by omega
 simp [jh,j7,h0]
theorem pO {len cap m:Nat} {k:IntKind} (h:m ≤ len) (hc:len ≤ cap):jh len cap (some (.int k m)) none none = some (m,len,cap):=by
 have h0:(0:Int) ≤ m /\ (m:Int) ≤ len:=by omega
 simp [jh,j7,h0]
include ht hd he in
theorem rG.take {G:ah} {v:ag} {vs:List ag} (h:rG ie.size G v vs) {k:IntKind} {m:Nat} (hm:m ≤ vs.length):∃ v',fj T t v none (some (.int k m)) none = some v' /\ rG ie.size G v' (vs.take m):=by
 rcases h with ⟨id,p,st,off,len,cap,tr,rfl,hlc,hg,h⟩ | ⟨rfl,rfl⟩
 ·obtain ⟨cs,h1,h0,h2,h3,rfl,harr⟩:=ll h
  have hl:((cs.drop st).take len).length = len:=by rw [List.length_take,List.length_drop]; omega
  rw [hl] at hm
  refine ⟨.slice id p st off m cap,?_,.inl ⟨id,p,st,off,m,cap,tr,rfl,by omega,hg,?_⟩⟩
  ·simp only [fj,ht,hd,he]
   rw [nE (by omega)]
   simp
  ·simp only [fT,harr]
   rw [if_pos (by omega),List.take_take,Nat.min_eq_left hm]
 ·simp at hm
  subst hm
  exact ⟨.nilSlice,by simp [fj,ht,hd,he,jh,j7],.inr ⟨rfl,by simp⟩⟩
include ht hd he in
theorem rG.drop {G:ah} {v:ag} {vs:List ag} (h:rG ie.size G v vs) {k:IntKind} {m:Nat} (hm:m ≤ vs.length):∃ v',fj T t v (some (.int k m)) none none = some v' /\ rG ie.size G v' (vs.drop m):=by
 rcases h with ⟨id,p,st,off,len,cap,tr,rfl,hlc,hg,h⟩ | ⟨rfl,rfl⟩
 ·obtain ⟨cs,h1,h0,h2,h3,rfl,harr⟩:=ll h
  have hl:((cs.drop st).take len).length = len:=by rw [List.length_take,List.length_drop]; omega
  rw [hl] at hm
  refine ⟨.slice id p (if cap = m then st else st + m) (if cap = m then off else off + m * ie.size) (len - m) (cap - m),?_,?_⟩
  ·simp only [fj,ht,hd,he]
   rw [pO hm hlc]
  ·by_cases hcm:cap = m
   ·have hlm:len = m:=by omega
    refine .inl ⟨id,p,_,_,_,_,tr,rfl,by omega,hg,?_⟩
    rw [if_pos hcm,if_pos hcm]
    simp only [fT,harr]
    rw [if_pos (by omega),hlm,Nat.sub_self,List.take_zero,List.drop_eq_nil_iff.2 (by simp; omega)]
   ·refine .inl ⟨id,p,_,_,_,_,tr,rfl,by omega,hg,?_⟩
    rw [if_neg hcm,if_neg hcm]
    have harr':kg G ie.size id p (st + m) (off + m * ie.size) = some cs:=by
     unfold kg at harr ⊢
     rw [show off + m * ie.size - (st + m) * ie.size = off - st * ie.size by rw [Nat.add_mul]; omega]
     rw [h1] at harr ⊢
     simp only at harr ⊢
     rw [if_pos]
     simp only [Bool.and_eq_true,decide_eq_true_eq]
     exact ⟨by rw [Nat.add_mul]; omega,h2⟩
    simp only [fT,harr']
    rw [if_pos (by omega),List.drop_take,List.drop_drop]
 ·simp at hm
  subst hm
  exact ⟨.nilSlice,by simp [fj,ht,hd,he,jh,j7],.inr ⟨rfl,by simp⟩⟩
end
theorem K0 {T:Tbl} {G:ah} {R d:Nat} {t e:TypeId} {i ie:TI} {k:IntKind} {v:ag} {m:Nat} (ht:T t = some i) (hd:i.desc = .slice e) (he:T e = some ie) (hde:ie.desc = .int k) (h:wt T G R (d + 2) t v m) :
  ∃ xs:List Int,rG ie.size G v (xs.map (.int k)) /\ (∀ x ∈ xs,(Lit.int k x).wf = true) /\ xs.length * ie.bytes ≤ R /\ xs.length + 1 ≤ m /\ xs.length ≤ maxLen:=by
 obtain ⟨xs,h1,h2⟩:=Jj ht hd he hde h
 refine ⟨xs,?_,h2⟩
 rw [wt] at h
 simp only [ht,hd,he] at h
 rcases h with ⟨rfl,rfl⟩ | ⟨id,len,cap,cs,ms,rfl,hl,hm,hR,hg,hcl,hu,_,hw,rfl⟩
 ·rcases h1 with ⟨_,_,_,_,_,_,e,_⟩ | h
  ·cases e
  ·exact .inr h
 ·refine .inl ⟨id,[],0,0,len,cap,_,rfl,hl,hg,h1.elems⟩
section
variable {T:Tbl} {t e:TypeId} {i ie:TI} (ht:T t = some i) (hd:i.desc = .slice e) (he:T e = some ie)
include ht hd he in
theorem JD {G:ah} {id:AId} {len cap j:Nat} {k:IntKind} {cs:List ag} {c:ag} (hg:G id = some (.own (.agg cs))) (hu:uni ie.size cs = true) (hj:j < len) (hl:len ≤ cs.length) (hc:sz c = ie.size)
  (ha:c.isAgg = ie.desc.isAgg) (hok:okv c = true) :
  ∃ a,aL T t (.slice id [] 0 0 len cap) (.int k j) = some a /\ ax T G e a c = some (G.upd id (.own (.agg (cs.set j c)))):=by
 refine ⟨.ptr id [j] (j * ie.size),?_,?_⟩
 ·simp only [aL,ht,hd,he]
  rw [if_pos ⟨by omega,by omega⟩]
  simp
 ·have hlt:j < cs.length:=by omega
  have hx:cs[j]? = some cs[j]:=List.getElem?_eq_getElem hlt
  have hsz:szs (cs.take j) = j * ie.size:=by rw [gv (jc hu _),List.length_take,Nat.min_eq_left (by omega)]
  have hszx:sz cs[j] = ie.size:=by
   simp only [Esc.uni,List.all_eq_true,beq_iff_eq] at hu
   exact hu _ (List.getElem_mem hlt)
  simp only [ax,hg,sub,hsz,hx,Nat.le_refl,if_true,Nat.sub_self,he,putAt]
  rw [if_pos (by simp [fa,hc,ha,hok,hszx])]
end
theorem Fb {n j:Nat} {cs:List ag} {c:ag} (h:uni n cs = true) (hc:sz c = n):uni n (cs.set j c) = true:=by
 simp only [Esc.uni,List.all_eq_true,beq_iff_eq] at h ⊢
 intro x hx
 rcases List.mem_or_eq_of_mem_set hx with hx | rfl
 ·exact h x hx
 ·exact hc
theorem rT {G:ah} {id:AId} {o o':mY} (hg:G id = some o) (ho:∀ t,o ≠ .ro t):n6 G (G.upd id o'):=fun j t hj=>by
 rw [ah.lF _ _ (fun h=>by subst h; rw [hg] at hj; injection hj with hj; exact ho _ hj)]
 exact hj
theorem Own.upd {n:Nat} {G:ah} {v:ag} {vs:List ag} {id:AId} {o:mY} (h:Own n G v vs) (hne:rowOf v ≠ some id):Own n (G.upd id o) v vs:=by
 rcases h with h | ⟨i',len,cap,cs,rfl,hg,h⟩
 ·exact .inl h
 ·exact .inr ⟨i',len,cap,cs,rfl,by rw [ah.lF _ _ (fun e=>hne (by rw [<- e]; rfl))]; exact hg,h⟩
end Go.Esc
