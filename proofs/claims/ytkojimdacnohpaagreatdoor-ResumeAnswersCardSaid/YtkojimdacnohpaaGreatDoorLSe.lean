import Derived.Test.YtkojimdacnohpaaGreatDoorLSd
set_option maxHeartbeats 2000000
set_option linter.unusedSimpArgs false
set_option linter.unusedVariables false
set_option maxRecDepth 20000
namespace Go.Esc.M
open Go Go.Esc
theorem ub {s:List UInt8} (h:s.length = 32) (a b:Int):(jJ s a b).1.length = 32:=by
 unfold jJ
 cases okN a && okN b
 ·rfl
 ·rw [cond_true]
  split
  ·exact kK _ h
  ·rfl
section
variable {F0:List AId} {G0 G:ah} {ps:List LP} {Q:ag -> ah -> Prop}
theorem Lf {h:List UInt8} {K:AId -> ah -> Prop} (s:Sp F0 G0 ps G) (hl:h.length = 32) (hK:∀ i G',Sp F0 G0 (ar i (.agg (h.map u8v)) :: ps) G' -> K i G') :
  br G (.own cI) fun i G2=>wg (ax T G2 aj (.ptr i [] 0) (.agg (h.map u8v))) fun G3=>K i G3:=jQ s cd (Ey hl) (LC hl) (Le h) hK
end
end Go.Esc.M
namespace Go.Esc.M
open Go Go.Esc
theorem Io {a:Int} (ha:okN a = true):oI a = (((level (pl a):Nat):Int),0):=by
 unfold oI
 rw [ha]
 rfl
section
variable {F0:List AId} {G0 G:ah} {ps:List LP} {Q:ag -> ah -> Prop}
end
end Go.Esc.M
namespace Go.Esc
open Go Go.RowKit
section
variable {T:Tbl} {t e:TypeId} {i ie:TI} (ht:T t = some i) (hd:i.desc = .slice e) (he:T e = some ie)
end
end Go.Esc
namespace Go.Esc.M
open Go Go.Esc
structure cB where
 index:Int
 secret:List UInt8
 full:Bool
 deriving DecidableEq
def cB.cs (s:cB):List ag:=[.int .i64 s.index,.agg (s.secret.map u8v),.bool s.full]
def cB.av (s:cB):ag:=.agg s.cs
def cB.ok (s:cB):Prop:=s.secret.length = 32
def pK:cB:=⟨0,jD,false⟩
theorem oe:pK.ok:=rfl
theorem J8:pe = pK.av:=rfl
theorem cB.sz {s:cB} (h:s.ok):Esc.sz s.av = 34:=by
 have h1:szs (s.secret.map u8v) = 32:=by rw [gv (n:=1) (ji _)]; simp [show s.secret.length = 32 from h]
 simp [cB.av,cB.cs,Esc.sz,szs,h1]
theorem cB.fits {s:cB} (h:s.ok):fa kI s.av = true:=by
 have h1:=cB.sz h
 have h2:s.av.isAgg = true:=rfl
 simp [fa,h1,h2,kI,j4.isAgg]
theorem cB.okv (s:cB):Esc.okv s.av = true:=by simp [cB.av,cB.cs,Esc.okv,kT,jx]
theorem z7 {l:List cB} (h:∀ s ∈ l,s.ok):Esc.uni 34 (l.map cB.av) = true:=by
 simp only [Esc.uni,List.all_map,List.all_eq_true]
 intro s hs
 simp [cB.sz (h s hs)]
theorem tV:∀ l:List cB,kT (l.map cB.av) = true
 | []=>rfl
 | s :: l=>by simp [kT,cB.okv,tV l]
theorem sQ (l:List cB) {j:Nat} {s:cB} (h:l[j]? = some s):(l.map cB.av)[j]? = some s.av:=by rw [List.getElem?_map,h]; rfl
theorem MD {a b:cB} (ha:a.ok) (hb:b.ok):mN T 9 ff a.av b.av = some (decide (a = b)):=by
 obtain ⟨ai,ash,af⟩:=a
 obtain ⟨bi,bsh,bf⟩:=b
 have ha:ash.length = 32:=ha
 have hb:bsh.length = 32:=hb
 have h1:mN T 8 me (.int .i64 ai) (.int .i64 bi) = some (decide (ai = bi)):=by
  rw [mN]
  simp only [cA]
  show (if IntKind.i64 = IntKind.i64 then some (decide (ai = bi)) else none) = _
  rw [if_pos rfl]
 have h2:mN T 8 aj (.agg (ash.map u8v)) (.agg (bsh.map u8v)) = some (decide (ash = bsh)):=by
  rw [yf cd rfl dz]
  exact BT dz rfl rfl 6 32 _ _ ha hb
 have h3:mN T 8 ey (.bool af) (.bool bf) = some (af == bf):=by
  rw [mN]
  simp only [kC]
  rfl
 have f1:∀ n,fa jy (.int .i64 n) = true:=fun _=>rfl
 have f2:∀ n,fa sB (.bool n) = true:=fun _=>rfl
 rw [mN]
 simp only [ky]
 show eqF T (mN T 8) [(me,0),(aj,1),(ey,33)] [.int .i64 ai,.agg (ash.map u8v),.bool af] [.int .i64 bi,.agg (bsh.map u8v),.bool bf] 0 = _
 have o1:jy.size = 1:=rfl
 have o2:fE.size = 32:=rfl
 simp only [eqF,cA,cd,kC,h1,h2,h3,f1,f2,Ey ha,Ey hb,o1,o2]
 by_cases e1:ai = bi
 ·by_cases e2:ash = bsh
  ·by_cases e3:af = bf
   ·subst e1 e2 e3; simp
   ·subst e1 e2
    have:(af == bf) = false:=by simp [e3]
    simp [this,e3]
  ·simp [e1,e2]
 ·simp [e1]
theorem ME {a b:cB} (ha:a.ok) (hb:b.ok):aw T .neq ff a.av b.av = some (.bool (!decide (a = b))):=by
 have:=MD ha hb
 unfold cB.av at this ⊢
 simp only [aw,this]
section
variable {F0:List AId} {G0 G:ah} {ps:List LP} {v:ag} {l:List cB} {j:Nat} {s:cB} {x:Int}
theorem Jy (h:fV 34 G v (l.map cB.av)) (hx:x = (j:Int)) (hj:l[j]? = some s):∃ a,aL T bu v (.int .i64 x) = some a /\ lq T G ff a = some s.av:=by
 subst hx
 exact h.at_ (k:=.i64) iL rfl ky (sQ l hj) rfl
theorem Ag (h:fV 34 G v (l.map cB.av)) (hx:x = (j:Int)) (hj:l[j]? = some s) (ho:s.ok):∃ a b,aL T bu v (.int .i64 x) = some a /\ bx T ff a 2 = some b /\ lq T G ey b = some (.bool s.full):=by
 subst hx
 have h1:szs (s.secret.map u8v) = 32:=by rw [gv (n:=1) (ji _)]; simp [show s.secret.length = 32 from ho]
 exact fV.fld (k:=.i64) (cs:=s.cs) iL rfl ky (fs:=[(me,0),(aj,1),(ey,33)]) (f:=2) (o:=33) rfl rfl kC (by decide) h (sQ l hj) (by simp [cB.cs,szs,Esc.sz,h1]) rfl rfl
theorem Ea (h:fV 34 G v (l.map cB.av)) (hx:x = (j:Int)) (hj:l[j]? = some s):∃ a b,aL T bu v (.int .i64 x) = some a /\ bx T ff a 0 = some b /\ lq T G me b = some (.int .i64 s.index):=by
 subst hx
 exact fV.fld (k:=.i64) (cs:=s.cs) iL rfl ky (fs:=[(me,0),(aj,1),(ey,33)]) (f:=0) (o:=0) rfl rfl cA (by decide) h (sQ l hj) rfl rfl rfl
theorem CL (h:fV 34 G v (l.map cB.av)) (hx:x = (j:Int)) (hj:l[j]? = some s) (ho:s.ok):∃ a b,aL T bu v (.int .i64 x) = some a /\ bx T ff a 1 = some b /\ lq T G aj b = some (.agg (s.secret.map u8v)):=by
 subst hx
 exact fV.fld (k:=.i64) (cs:=s.cs) iL rfl ky (fs:=[(me,0),(aj,1),(ey,33)]) (f:=1) (o:=1) rfl rfl cd (by decide) h (sQ l hj) (by simp [cB.cs,szs,Esc.sz]) rfl (Ey ho)
theorem sF (h:fV 34 G v (l.map cB.av)):gF T G bu v = some (.int .i64 (l.length:Nat)):=by
 rw [h.len (i:=jN) iL rfl,List.length_map]
theorem qj {i:Nat} {id:AId} (hs:Sp F0 G0 ps G) (hi:ps[i]? = some (ar id s.av)) (ho:s.ok) :
  lq T G me (.ptr id [0] 0) = some (.int .i64 s.index) /\ lq T G aj (.ptr id [1] 1) = some (.agg (s.secret.map u8v)) /\ lq T G ey (.ptr id [2] 33) = some (.bool s.full) /\ lq T G ff (.ptr id [] 0) = some s.av:=by
 have hg:=ar.own hs hi
 have h1:szs (s.secret.map u8v) = 32:=by rw [gv (n:=1) (ji _)]; simp [show s.secret.length = 32 from ho]
 refine ⟨dQ (c:=.int .i64 s.index) hg rfl rfl rfl cA rfl,dQ (c:=.agg (s.secret.map u8v)) hg rfl rfl rfl cd (Ey ho),dQ (cs:=s.cs) (c:=.bool s.full) hg rfl (by simp [cB.cs,szs,Esc.sz,h1]) rfl kC rfl,cJ ky hg (cB.fits ho)⟩
theorem tP {i:Nat} {id:AId} {s':cB} (hs:Sp F0 G0 ps G) (hi:ps[i]? = some (ar id s.av)) (h:s.ok) (h':s'.ok) {K:ah -> Prop} (hK:∀ G',Sp F0 G0 (ps.set i (ar id s'.av)) G' -> K G'):wg (ax T G ff (.ptr id [] 0) s'.av) K:=by
 refine fK (il ky (ar.own hs hi) (cB.fits h') (by rw [cB.sz h,cB.sz h']) (cB.okv _)) ?_
 exact hK _ (Sp.setRow hs hi _)
theorem LI {K:AId -> ah -> Prop} (hs:Sp F0 G0 ps G) (ho:s.ok) (hK:∀ i G',Sp F0 G0 (ar i s.av :: ps) G' -> K i G') :
  br G (.own pe) fun i G2=>wg (ax T G2 ff (.ptr i [] 0) s.av) fun G3=>K i G3:=jQ hs ky (cB.fits ho) (by rw [J8,cB.sz oe,cB.sz ho]) (cB.okv s) hK
theorem AA {i:Nat} {K:ag -> ah -> Prop} (hs:Sp F0 G0 ps G) (hi:ps[i]? = some (bj 34 v (l.map cB.av))) (ho:s.ok) (hl:(l.length + 1) * 48 ≤ 140737488355328) (hK:∀ v' G',Sp F0 G0 (ps.set i (bj 34 v' ((l ++ [s]).map cB.av))) G' -> K v' G') :
  bh T bu 1 [(0,s.av)] G fun w G'=>cc T G' bu bu v w K:=by
 refine uY iL rfl ky (cB.sz oe) (by decide) hs hi (cB.sz ho) (cB.okv s) (by decide) (by rw [List.length_map]; exact hl) fun s' G' h=>hK s' G' ?_
 rw [List.map_append]
 exact h
end
theorem EL {n:Int} {h:List UInt8} (hl:h.length = 32) (b:Bool):bk T ff [(0,.int .i64 n),(1,.agg (h.map u8v)),(2,.bool b)] = some (cB.av ⟨n,h,b⟩):=by
 refine (jK (zs:=pK.cs) ky rfl rfl rfl (n9 (by decide +kernel)) ?_).trans rfl
 intro p hp
 simp only [List.mem_cons,List.not_mem_nil,or_false] at hp
 have e1:szs (h.map u8v) = 32:=by rw [gv (n:=1) (ji _)]; simp [hl]
 have e2:szs (jD.map u8v) = 32:=by rw [gv (n:=1) (ji _)]; rfl
 rcases hp with rfl | rfl | rfl
 ·rfl
 ·simp [pK,cB.cs,Esc.sz,e1,e2]
 ·simp [pK,cB.cs,Esc.sz]
theorem EK:bk T ff [] = some pK.av:=rfl
def atS (l:List cB) (j:Nat):cB:=if (l.getD j pK).full = true then l.getD j pK else pK
def zy (secret:List UInt8) (n:Int) (s:cB):Bool:=s.full && !decide (jJ secret n s.index = (s.secret,0))
def yU (l:List cB) (n:Int) (secret:List UInt8):Bool:=(List.range (level (pl n))).all fun j=>!zy secret n (atS l j)
def Da (l:List cB) (n:Int) (secret:List UInt8):List cB:=(List.range 49).map fun j=>if j = level (pl n) then ⟨n,secret,true⟩ else atS l j
def uG (l:List cB) (n:Int) (secret:List UInt8):List cB × Int :=
 if 49 < l.length then ([],1) else if okN n = true then (if yU l n secret = true then (Da l n secret,0) else ([],100)) else ([],90)
def Ew (n:Int):List cB -> List UInt8 × Int
 | []=>(jD,5)
 | s :: l=>if s.full = true /\ (jJ s.secret s.index n).2 = 0 then ((jJ s.secret s.index n).1,0) else Ew n l
def GK (l:List cB) (n:Int):List UInt8 × Int:=if 49 < l.length then (jD,1) else if okN n = true then Ew n l else (jD,90)
theorem DB {l:List cB} {j:Nat} {s:cB} (h:l[j]? = some s):atS l j = if s.full = true then s else pK:=by
 unfold atS
 rw [List.getD_eq_getElem?_getD,h]
 rfl
theorem DC {l:List cB} {j:Nat} (h:l.length ≤ j):atS l j = pK:=by
 unfold atS
 rw [List.getD_eq_getElem?_getD,List.getElem?_eq_none h]
 rfl
theorem I5 {l:List cB} (h:∀ s ∈ l,s.ok) (j:Nat):(atS l j).ok:=by
 by_cases hj:j < l.length
 ·have hx:l[j]? = some l[j]:=List.getElem?_eq_getElem hj
  rw [DB hx]
  split
  ·exact h _ (List.mem_of_getElem? hx)
  ·exact oe
 ·rw [DC (by omega)]
  exact oe
theorem Iz {l:List cB} {n:Int} {secret:List UInt8} (h:∀ s ∈ l,s.ok) (hs:secret.length = 32):∀ s ∈ Da l n secret,s.ok:=by
 intro s hm
 unfold Da at hm
 obtain ⟨j,_,rfl⟩:=List.mem_map.1 hm
 split
 ·exact hs
 ·exact I5 h j
theorem JB {l:List cB} {n:Int} {secret:List UInt8} (h:∀ s ∈ l,s.ok) (hs:secret.length = 32):∀ s ∈ (uG l n secret).1,s.ok:=by
 unfold uG
 intro s hm
 split at hm
 ·simp at hm
 ·split at hm
  ·split at hm
   ·exact Iz h hs s hm
   ·simp at hm
  ·simp at hm
theorem GG (l:List cB) (n:Int) (secret:List UInt8):(Da l n secret).length = 49:=by simp [Da]
theorem yT {l:List cB} {n:Int} {secret:List UInt8}:yU l n secret = true ↔ ∀ j,j < level (pl n) -> zy secret n (atS l j) = false:=by
 unfold yU
 rw [List.all_eq_true]
 constructor
 ·intro h j hj
  have:=h j (List.mem_range.2 hj)
  simpa using this
 ·intro h j hj
  have:=h j (List.mem_range.1 hj)
  simp [this]
theorem HY (l:List cB) (n:Int) (secret:List UInt8):(uG l n secret).1.length ≤ 49:=by
 unfold uG
 split
 ·simp
 ·split
  ·split
   ·rw [GG]; omega
   ·simp
  ·simp
theorem Dh {n:Int}:∀ {l:List cB},(∀ s ∈ l,s.ok) -> (Ew n l).1.length = 32
 | [],_=>rfl
 | s :: l,h=>by
  unfold Ew
  split
  ·exact ub (h s (by simp)) _ _
  ·exact Dh fun x hx=>h x (by simp [hx])
theorem Dg {n:Int} {l:List cB} (h:∀ s ∈ l,s.ok):(GK l n).1.length = 32:=by
 unfold GK
 split
 ·rfl
 ·split
  ·exact Dh h
  ·rfl
end Go.Esc.M
namespace Go.Esc.M
open Go Go.Esc
section
variable {F0:List AId} {G0 G:ah} {ps:List LP} {Q:ag -> ah -> Prop}
theorem iV.use {v:ag} {l:List cB} {n:Int} (hT:Tab G) (hl:fV 34 G v (l.map cB.av)) (hok:∀ s ∈ l,s.ok) (hlen:l.length * 48 ≤ 140737488351232)
  (hQ:∀ G',Ch [] G [] G' -> Q (wM (GK l n)) G'):al P iV.n [v,.int .i64 n] G Q:=by
 refine iV.sound ?_
 unfold iV.S
 rw [kM]
 intro i1 f1
 have s1:=(Sp.nil G).row f1 (.agg ((List.replicate 32 (0:UInt8)).map u8v))
 have z1:jD.length = 32:=rfl
 unfold GK at hQ
 have out:∀ (h h':List UInt8) (e:Int) (G':ah),h.length = 32 -> h'.length = 32 -> Sp [] G [ar i1 (.agg (h'.map u8v))] G' -> (∀ G',Ch [] G [] G' -> Q (wM (h,e)) G') ->
   wg (ax T G' aj (.ptr i1 [] 0) (.agg (h.map u8v))) fun G6=>wv (lq T G6 aj (.ptr i1 [] 0)) fun v7=>Q (.tuple [v7,.int .i64 e]) G6:=by
  intro h h' e G' hh hh' sp hk
  refine fK (gg hh' hh (ar.own (i:=0) sp rfl)) ?_
  have s2:=Sp.setRow (j:=0) sp rfl (.agg (h.map u8v))
  refine ae (bE hh (ar.own (i:=0) s2 rfl)) ?_
  exact hk _ s2.ch
 refine ae (sF (hl.ch' s1.ch)) ?_
 rw [de,aa,aE]
 refine ⟨fun h=>?_,fun h=>?_⟩
 ·rw [if_pos (by omega)] at hQ
  refine ae m9 ?_
  exact out _ _ _ _ (by simp) (by simp) s1 hQ
 rw [if_neg (by omega)] at hQ
 intro J52
 have bad:okN n = false -> J52 (.bool true) (G.upd i1 (.own (.agg ((List.replicate 32 (0:UInt8)).map u8v)))):=by
  intro hn
  rw [hn,if_neg (by simp)] at hQ
  simp -zeta only [J52,aX]
  refine ae m9 ?_
  exact out _ _ _ _ (by simp) (by simp) s1 hQ
 have kA:okN n = true -> J52 (.bool false) (G.upd i1 (.own (.agg ((List.replicate 32 (0:UInt8)).map u8v)))):=by
  intro hn
  rw [hn,if_pos rfl] at hQ
  simp -zeta only [J52,aM]
  refine ae (sF (hl.ch' s1.ch)) ?_
  intro R hR
  have loop:∀ (m j:Nat) (G':ah),l.length - j = m -> j ≤ l.length -> Ew n l = Ew n (l.drop j) -> Sp [] G [ar i1 (.agg ((List.replicate 32 (0:UInt8)).map u8v))] G' ->
    R [v,.int .i64 n,.ptr i1 [] 0,.int .i64 (l.length:Int),.int .i64 (j:Int)] G':=by
   intro m
   induction m with
   | zero=>
    intro j G' hm hj he sp
    refine hR _ _ _ _ _ _ ?_
    rw [aH,aa,decide_eq_false (by omega),aM]
    rw [List.drop_eq_nil_of_le (by omega)] at he
    rw [he] at hQ
    refine ae m9 ?_
    exact out _ _ _ _ (by simp) (by simp) sp hQ
   | succ m ih=>
    intro j G' hm hj he sp
    obtain ⟨s,hsj⟩:∃ s,l[j]? = some s:=⟨_,List.getElem?_eq_getElem (by omega)⟩
    have hso:=hok s (List.mem_of_getElem? hsj)
    have hdr:l.drop j = s :: l.drop (j + 1):=by
     rw [List.drop_eq_getElem_cons (by omega)]
     rw [List.getElem?_eq_getElem (by omega)] at hsj
     injection hsj with hsj
     rw [hsj]
    rw [hdr,Ew] at he
    refine hR _ _ _ _ _ _ ?_
    rw [aH,aa,decide_eq_true (by omega),aX]
    obtain ⟨a,b,e1,e2,e3⟩:=Ag (hl.ch' sp.ch) rfl hsj hso
    refine ae e1 ?_
    refine ae e2 ?_
    refine ae e3 ?_
    rw [fN,aa]
    have ev:aw T .add au (.int .i64 (j:Int)) (.int .i64 1) = some (.int .i64 ((j + 1:Nat):Int)):=by
     rw [wi,i64_in (by omega) (by omega)]
     rfl
    cases hf:s.full with
    | false=>
     rw [hf,if_neg (by simp)] at he
     rw [Bool.not_false,aX]
     exact ae ev (ih (j + 1) G' (by omega) (by omega) he sp)
    | true=>
     rw [Bool.not_true,aM]
     obtain ⟨a,b,e1,e2,e3⟩:=CL (hl.ch' sp.ch) rfl hsj hso
     refine ae e1 ?_
     refine ae e2 ?_
     refine ae e3 ?_
     obtain ⟨a,b,e1,e2,e3⟩:=Ea (hl.ch' sp.ch) rfl hsj
     refine ae e1 ?_
     refine ae e2 ?_
     refine ae e3 ?_
     refine gM.use (hT.mono sp.ro) hso fun G35 c35=>?_
     have s35:=sp.tmp c35
     refine ae (hi0 _) ?_
     refine ae (hi1 _) ?_
     have hdl:=ub (s:=s.secret) hso s.index n
     refine Lf s35 hdl fun i38 G40 s40=>?_
     rw [bC,aa]
     by_cases hz:(jJ s.secret s.index n).2 = 0
     ·rw [if_pos ⟨hf,hz⟩] at he
      rw [he] at hQ
      rw [decide_eq_true hz,aX]
      refine ae (bE hdl (ar.own (i:=0) s40 rfl)) ?_
      exact out _ _ _ _ hdl (by simp) (s40.erase 0) hQ
     ·rw [if_neg (fun h=>hz h.2)] at he
      rw [decide_eq_false hz,aM]
      exact ae ev (ih (j + 1) G40 (by omega) (by omega) he (s40.erase 0))
  exact loop l.length 0 _ rfl (by omega) rfl s1
 have hiff:=BE (n:=n)
 rw [aH,aa,aE]
 refine ⟨fun h=>bad (Bool.eq_false_iff.2 fun hh=>?_),fun h=>?_⟩
 ·have:=hiff.1 hh
  omega
 ·rw [de,aa]
  by_cases h2:n > 281474976710655
  ·rw [decide_eq_true h2]
   exact bad (Bool.eq_false_iff.2 fun hh=>by have:=hiff.1 hh; omega)
  ·rw [decide_eq_false h2]
   exact kA (hiff.2 ⟨by omega,by omega⟩)
end
end Go.Esc.M
namespace Go.Esc.M
open Go Go.Esc
section
variable {F0:List AId} {G0 G:ah} {ps:List LP} {Q:ag -> ah -> Prop}
def KX (k:Nat) (n:Int):Int:=if 49 < k then 1 else if okN n = true then 0 else 90
theorem dX.use {v:ag} {l:List cB} {n:Int} (hl:fV 34 G v (l.map cB.av)) (hQ:Q (.int .i64 (KX l.length n)) G):al P dX.n [v,.int .i64 n] G Q:=by
 refine dX.sound ?_
 unfold dX.S
 unfold KX at hQ
 have hiff:=BE (n:=n)
 refine ae (sF hl) ?_
 rw [de,aa,aE]
 refine ⟨fun h=>?_,fun h=>?_⟩
 ·rw [if_pos (by omega)] at hQ
  exact hQ
 rw [if_neg (by omega)] at hQ
 rw [aH,aa,aE]
 refine ⟨fun h=>?_,fun h=>?_⟩
 ·rw [if_neg (fun hh=>by have:=hiff.1 hh; omega)] at hQ
  exact hQ
 rw [de,aa,aE]
 refine ⟨fun h=>?_,fun h=>?_⟩
 ·rw [if_neg (fun hh=>by have:=hiff.1 hh; omega)] at hQ
  exact hQ
 ·rw [if_pos (hiff.2 ⟨by omega,by omega⟩)] at hQ
  exact hQ
theorem fM.use {v:ag} {l:List cB} {j:Nat} (hl:fV 34 G v (l.map cB.av)) (hok:∀ s ∈ l,s.ok) (hlen:l.length * 48 ≤ 140737488351232) (hQ:∀ G',Ch [] G [] G' -> Q (atS l j).av G'):al P fM.n [v,.int .i64 (j:Int)] G Q:=by
 refine fM.sound ?_
 unfold fM.S
 rw [J8]
 intro i1 f1
 have s1:=(Sp.nil G).row f1 pK.av
 intro J17
 have no:atS l j = pK -> J17 (.bool false) (G.upd i1 (.own pK.av)):=by
  intro h
  rw [h] at hQ
  simp -zeta only [J17,aM]
  refine ae EK ?_
  refine tP (i:=0) s1 rfl oe oe fun G' s=>?_
  refine ae (qj (i:=0) s rfl oe).2.2.2 ?_
  exact hQ _ s.ch
 refine ae (sF (hl.ch' s1.ch)) ?_
 rw [aH,aa,aE]
 refine ⟨fun h=>?_,fun h=>no (DC (by omega))⟩
 obtain ⟨s,hsj⟩:∃ s,l[j]? = some s:=⟨_,List.getElem?_eq_getElem (by omega)⟩
 have hso:=hok s (List.mem_of_getElem? hsj)
 have hat:=DB hsj
 obtain ⟨a,b,e1,e2,e3⟩:=Ag (hl.ch' s1.ch) rfl hsj hso
 refine ae e1 ?_
 refine ae e2 ?_
 refine ae e3 ?_
 cases hf:s.full with
 | false=>
  rw [hf,if_neg (by simp)] at hat
  exact no hat
 | true=>
  rw [hf,if_pos rfl] at hat
  rw [hat] at hQ
  simp -zeta only [J17,aX]
  obtain ⟨a,e1,e2⟩:=Jy (hl.ch' s1.ch) rfl hsj
  refine ae e1 ?_
  refine ae e2 ?_
  refine tP (i:=0) s1 rfl oe hso fun G' s'=>?_
  refine ae (qj (i:=0) s' rfl hso).2.2.2 ?_
  exact hQ _ s'.ch
def rA (l:List cB) (n:Int) (secret:List UInt8) (j:Nat):List cB:=(List.range j).map fun q=>if q = level (pl n) then ⟨n,secret,true⟩ else atS l q
theorem y6 (l:List cB) (n:Int) (secret:List UInt8) (j:Nat):rA l n secret (j + 1) = rA l n secret j ++ [if j = level (pl n) then ⟨n,secret,true⟩ else atS l j]:=by
 unfold rA
 rw [List.range_succ,List.map_append]
 rfl
theorem GH (l:List cB) (n:Int) (secret:List UInt8) (j:Nat):(rA l n secret j).length = j:=by simp [rA]
theorem eH.use {v:ag} {l:List cB} {n:Int} {secret:List UInt8} (hl:fV 34 G v (l.map cB.av)) (hok:∀ s ∈ l,s.ok) (hlen:l.length * 48 ≤ 140737488351232) (hs:secret.length = 32)
    (hQ:∀ w G',Sp [] G [bj 34 w ((uG l n secret).1.map cB.av)] G' -> Q (.tuple [w,.int .i64 (uG l n secret).2]) G'):al P eH.n [v,.int .i64 n,.agg (secret.map u8v)] G Q:=by
  refine eH.sound ?_
  unfold eH.S
  intro i1 f1
  have s1:=(Sp.nil G).row f1 (.agg (secret.map u8v))
  refine dX.use (hl.ch' s1.ch) ?_
  unfold uG at hQ
  unfold KX
  by_cases h49:49 < l.length
  · rw [if_pos h49] at hQ ⊢
    refine ae (v:=.bool true) rfl ?_
    rw [aX]
    exact hQ _ _ ((s1.nd 34).erase 1)
  rw [if_neg h49] at hQ ⊢
  cases hn:okN n with
  | false=>
    rw [hn,if_neg (by simp)] at hQ
    rw [if_neg (by simp)]
    refine ae (v:=.bool true) rfl ?_
    rw [aX]
    exact hQ _ _ ((s1.nd 34).erase 1)
  | true=>
    rw [hn,if_pos rfl] at hQ
    rw [if_pos rfl,nz0,aa,aM]
    refine dY.use fun G7 c7=>?_
    have s1:=s1.tmp c7
    refine ae (ii0 _) ?_
    refine ae (ii1 _) ?_
    rw [Io hn]
    have hlv:=rZ (pl n)
    intro R hR
    have loop:∀ (m j:Nat) (w:ag) (G':ah),49 - j = m -> j ≤ 49 -> (∀ q,q < j -> q < level (pl n) -> zy secret n (atS l q) = false) -> Sp [] G [bj 34 w ((rA l n secret j).map cB.av),ar i1 (.agg (secret.map u8v))] G' ->
        R [v,.int .i64 n,.ptr i1 [] 0,.int .i64 ((level (pl n):Nat):Int),w,.int .i64 (j:Int)] G':=by
      intro m
      induction m with
      | zero=>
        intro j w G' hm hj hb sp
        have hjl:j = 49:=by omega
        subst hjl
        have hall:yU l n secret = true:=by
          rw [yT]
          intro q hq
          exact hb q (by omega) hq
        rw [hall,if_pos rfl] at hQ
        refine hR _ _ _ _ _ _ _ ?_
        rw [aH,aa,decide_eq_false (by omega),aM]
        exact hQ _ _ (sp.erase 1)
      | succ m ih=>
        intro j w G' hm hj hb sp
        refine hR _ _ _ _ _ _ _ ?_
        rw [aH,aa,decide_eq_true (by omega),aX]
        have hao:=I5 hok j
        have ev:aw T .add au (.int .i64 (j:Int)) (.int .i64 1) = some (.int .i64 ((j + 1:Nat):Int)):=by
          rw [wi,i64_in (by omega) (by omega)]
          rfl
        refine fM.use (hl.ch' sp.ch) hok hlen fun G20 c20=>?_
        have s20:=sp.tmp c20
        obtain ⟨x,hx⟩:∃ x,x = atS l j:=⟨_,rfl⟩
        rw [<- hx] at hao ⊢
        refine LI s20 hao fun i21 G23 s23=>?_
        intro J65
        have h64:∀ G43,Sp [] G [ar i21 x.av,bj 34 w ((rA l n secret j).map cB.av),ar i1 (.agg (secret.map u8v))] G43 -> (j < level (pl n) -> zy secret n (atS l j) = false) ->
            (wv (aw T .eql au (.int .i64 (j:Int)) (.int .i64 ((level (pl n):Nat):Int))) fun v44=>brB (some v44)
  (wv (lq T G43 aj (.ptr i1 [] 0)) fun v45=>wv (bk T ff [(0,.int .i64 n),(1,v45),(2,.bool true)]) fun v46=>wg (ax T G43 ff (.ptr i21 [] 0) v46) fun G47=>wv (lq T G47 ff (.ptr i21 [] 0)) fun v54=>bh T bu 1 [(0,v54)] G47 fun v55 G56=>cc T G56 bu bu w v55 fun v57 G58=>wv (aw T .add au (.int .i64 (j:Int)) (.int .i64 1)) fun v69=>R [v,.int .i64 n,.ptr i1 [] 0,.int .i64 ((level (pl n):Nat):Int),v57,v69] G58)
  (wv (lq T G43 ff (.ptr i21 [] 0)) fun v59=>bh T bu 1 [(0,v59)] G43 fun v60 G61=>cc T G61 bu bu w v60 fun v62 G63=>wv (aw T .add au (.int .i64 (j:Int)) (.int .i64 1)) fun v70=>R [v,.int .i64 n,.ptr i1 [] 0,.int .i64 ((level (pl n):Nat):Int),v62,v70] G63)):=by
          intro G43 s43 hbj
          have hb':∀ q,q < j + 1 -> q < level (pl n) -> zy secret n (atS l q) = false:=fun q hq hq2=>by
            by_cases hqj:q = j
            · subst hqj; exact hbj hq2
            · exact hb q (by omega) hq2
          have hgl:((rA l n secret j).length + 1) * 48 ≤ 140737488355328:=by rw [GH]; omega
          rw [bC,aa,aE]
          refine ⟨fun he=>?_,fun he=>?_⟩
          · refine ae (bE hs (ar.own (i:=2) s43 rfl)) ?_
            refine ae (EL hs true) ?_
            refine tP (i:=0) (s':=⟨n,secret,true⟩) s43 rfl hao hs fun G47 s47=>?_
            refine ae (qj (i:=0) (s:=⟨n,secret,true⟩) s47 rfl hs).2.2.2 ?_
            refine AA (i:=1) (s:=⟨n,secret,true⟩) s47 rfl hs hgl fun w' G58 s58=>?_
            have s58:=s58.erase 0
            have e:rA l n secret j ++ [⟨n,secret,true⟩] = rA l n secret (j + 1):=by rw [y6,if_pos (by omega)]
            rw [e] at s58
            exact ae ev (ih (j + 1) w' G58 (by omega) (by omega) hb' s58)
          · refine ae (qj (i:=0) s43 rfl hao).2.2.2 ?_
            refine AA (i:=1) s43 rfl hao hgl fun w' G58 s58=>?_
            have s58:=s58.erase 0
            have e:rA l n secret j ++ [x] = rA l n secret (j + 1):=by rw [y6,if_neg (by omega),hx]
            rw [e] at s58
            exact ae ev (ih (j + 1) w' G58 (by omega) (by omega) hb' s58)
        have hbad:zy secret n (atS l j) = true -> j < level (pl n) -> yU l n secret = false:=by
          intro hbad hj2
          refine Bool.eq_false_iff.2 fun h=>?_
          rw [yT] at h
          rw [h j hj2] at hbad
          cases hbad
        have h65n:(j < level (pl n) -> zy secret n (atS l j) = false) -> J65 (.bool false) G23:=by
          intro hbj
          simp -zeta only [J65,aM]
          exact h64 G23 s23 hbj
        rw [aH,aa,aE]
        refine ⟨fun hjl=>?_,fun hjl=>h65n fun h=>absurd h (by omega)⟩
        have hjl:j < level (pl n):=by omega
        obtain ⟨l0,l1,l2,l3⟩:=qj (i:=0) s23 rfl hao
        refine ae l2 ?_
        cases hf:x.full with
        | false=>
          refine h65n fun _=>?_
          rw [<- hx]
          unfold zy
          rw [hf]
          rfl
        | true=>
          simp -zeta only [J65,aX]
          have hbadj:zy secret n (atS l j) = !decide (jJ secret n x.index = (x.secret,0)):=by rw [<- hx]; unfold zy; rw [hf,Bool.true_and]
          refine ae (bE hs (ar.own (i:=2) s23 rfl)) ?_
          refine ae l0 ?_
          refine du.use hs fun G31 c31=>?_
          have s31:=s23.tmp c31
          refine ae (hi0 _) ?_
          refine ae (hi1 _) ?_
          have hdl:=ub hs n x.index
          refine Lf s31 hdl fun i34 G36 s36=>?_
          have fail:zy secret n (atS l j) = true -> Q (.tuple [.nilSlice,.int .i64 100]) G36:=by
            intro hb1
            rw [hbad hb1 hjl,if_neg (by simp)] at hQ
            exact hQ _ _ (((((s36.nd 34).erase 1).erase 1).erase 1).erase 1)
          rw [dy,aa]
          by_cases hz:(jJ secret n x.index).2 = 0
          · rw [decide_eq_true hz,Bool.not_true,aM]
            refine ae (bE hdl (ar.own (i:=0) s36 rfl)) ?_
            refine ae (qj (i:=1) s36 rfl hao).2.1 ?_
            refine ae (GJ hdl hao) ?_
            by_cases hd:(jJ secret n x.index).1 = x.secret
            · rw [decide_eq_true hd,Bool.not_true,aM]
              refine h64 G36 (s36.erase 0) fun _=>?_
              rw [hbadj,decide_eq_true (Prod.ext hd hz)]
              rfl
            · rw [decide_eq_false hd,Bool.not_false,aX]
              refine fail ?_
              rw [hbadj,decide_eq_false fun h=>hd (by rw [h])]
              rfl
          · rw [decide_eq_false hz,Bool.not_false,aX]
            refine fail ?_
            rw [hbadj,decide_eq_false fun h=>hz (by rw [h])]
            rfl
    exact loop 49 0 .nilSlice _ rfl (by omega) (fun q hq=>by omega) (s1.nd 34)
theorem MB {n:Int} {l:List cB} (j:Nat):Ew n (l.drop j) = if (atS l j).full = true /\ (jJ (atS l j).secret (atS l j).index n).2 = 0 then ((jJ (atS l j).secret (atS l j).index n).1,0) else Ew n (l.drop (j + 1)):=by
 by_cases hj:j < l.length
 ·have hx:l[j]? = some l[j]:=List.getElem?_eq_getElem hj
  rw [List.drop_eq_getElem_cons hj,Ew,DB hx]
  cases hf:l[j].full with
  | false=>simp [pK]
  | true=>simp [hf]
 ·rw [List.drop_eq_nil_of_le (by omega),List.drop_eq_nil_of_le (by omega),DC (by omega)]
  simp [pK]
theorem LY.use {v:ag} {l:List cB} {n:Int} (hl:fV 34 G v (l.map cB.av)) (hok:∀ s ∈ l,s.ok) (hlen:l.length * 48 ≤ 140737488351232)
  (hQ:∀ G',Ch [] G [] G' -> Q (wM (GK l n)) G'):al P LY.n [v,.int .i64 n] G Q:=by
 refine LY.sound ?_
 unfold LY.S
 rw [kM]
 intro i1 f1
 have s1:=(Sp.nil G).row f1 (.agg ((List.replicate 32 (0:UInt8)).map u8v))
 unfold GK at hQ
 have out:∀ (h h':List UInt8) (e:Int) (G':ah),h.length = 32 -> h'.length = 32 -> Sp [] G [ar i1 (.agg (h'.map u8v))] G' -> (∀ G',Ch [] G [] G' -> Q (wM (h,e)) G') ->
   wg (ax T G' aj (.ptr i1 [] 0) (.agg (h.map u8v))) fun G6=>wv (lq T G6 aj (.ptr i1 [] 0)) fun v7=>Q (.tuple [v7,.int .i64 e]) G6:=by
  intro h h' e G' hh hh' sp hk
  refine fK (gg hh' hh (ar.own (i:=0) sp rfl)) ?_
  have s2:=Sp.setRow (j:=0) sp rfl (.agg (h.map u8v))
  refine ae (bE hh (ar.own (i:=0) s2 rfl)) ?_
  exact hk _ s2.ch
 refine dX.use (hl.ch' s1.ch) ?_
 unfold KX
 by_cases h49:49 < l.length
 ·rw [if_pos h49] at hQ ⊢
  refine ae (v:=.bool true) rfl ?_
  rw [aX]
  refine ae m9 ?_
  exact out _ _ _ _ (by simp) (by simp) s1 hQ
 rw [if_neg h49] at hQ ⊢
 cases hn:okN n with
 | false=>
  rw [hn,if_neg (by simp)] at hQ
  rw [if_neg (by simp)]
  refine ae (v:=.bool true) rfl ?_
  rw [aX]
  refine ae m9 ?_
  exact out _ _ _ _ (by simp) (by simp) s1 hQ
 | true=>
  rw [hn,if_pos rfl] at hQ
  rw [if_pos rfl,nz0,aa,aM]
  intro R hR
  have loop:∀ (m j:Nat) (G':ah),49 - j = m -> j ≤ 49 -> Ew n l = Ew n (l.drop j) -> Sp [] G [ar i1 (.agg ((List.replicate 32 (0:UInt8)).map u8v))] G' ->
    R [v,.int .i64 n,.ptr i1 [] 0,.int .i64 (j:Int)] G':=by
   intro m
   induction m with
   | zero=>
    intro j G' hm hj he sp
    refine hR _ _ _ _ _ ?_
    rw [aH,aa,decide_eq_false (by omega),aM]
    rw [List.drop_eq_nil_of_le (by omega)] at he
    rw [he] at hQ
    refine ae m9 ?_
    exact out _ _ _ _ (by simp) (by simp) sp hQ
   | succ m ih=>
    intro j G' hm hj he sp
    rw [MB] at he
    refine hR _ _ _ _ _ ?_
    rw [aH,aa,decide_eq_true (by omega),aX]
    have hao:=I5 hok j
    have ev:aw T .add au (.int .i64 (j:Int)) (.int .i64 1) = some (.int .i64 ((j + 1:Nat):Int)):=by
     rw [wi,i64_in (by omega) (by omega)]
     rfl
    refine fM.use (hl.ch' sp.ch) hok hlen fun G17 c17=>?_
    have s17:=sp.tmp c17
    obtain ⟨x,hx⟩:∃ x,x = atS l j:=⟨_,rfl⟩
    rw [<- hx] at hao he ⊢
    refine LI s17 hao fun i18 G20 s20=>?_
    obtain ⟨l0,l1,l2,l3⟩:=qj (i:=0) s20 rfl hao
    refine ae l2 ?_
    cases hf:x.full with
    | false=>
     rw [hf,if_neg (by simp)] at he
     rw [aM]
     exact ae ev (ih (j + 1) G20 (by omega) (by omega) he (s20.erase 0))
    | true=>
     rw [aX]
     refine ae l1 ?_
     refine ae l0 ?_
     refine du.use hao fun G25 c25=>?_
     have s25:=s20.tmp c25
     refine ae (hi0 _) ?_
     refine ae (hi1 _) ?_
     have hdl:=ub (s:=x.secret) hao x.index n
     refine Lf s25 hdl fun i28 G30 s30=>?_
     rw [bC,aa]
     by_cases hz:(jJ x.secret x.index n).2 = 0
     ·rw [if_pos ⟨hf,hz⟩] at he
      rw [he] at hQ
      rw [decide_eq_true hz,aX]
      refine ae (bE hdl (ar.own (i:=0) s30 rfl)) ?_
      exact out _ _ _ _ hdl (by simp) ((s30.erase 0).erase 0) hQ
     ·rw [if_neg (fun h=>hz h.2)] at he
      rw [decide_eq_false hz,aM]
      exact ae ev (ih (j + 1) G30 (by omega) (by omega) he ((s30.erase 0).erase 0))
  exact loop 49 0 _ rfl (by omega) rfl s1
end
end Go.Esc.M
namespace Go.Esc.M
open Go Go.Esc
section
variable {F0:List AId} {G0 G:ah} {ps:List LP} {Q:ag -> ah -> Prop}
theorem mZ {h:List UInt8} {K:AId -> ah -> Prop} (hs:Sp F0 G0 ps G) (hl:h.length = 32) (hK:∀ i G',Sp F0 G0 (ar i (.agg (h.map u8v)) :: ps) G' -> K i G') :
  br G (.own cI) fun i G2=>wg (ax T G2 aj (.ptr i [] 0) (.agg (h.map u8v))) fun G3=>K i G3:=by
 intro i hf
 rw [kM]
 have s:=hs.row hf (.agg ((List.replicate 32 (0:UInt8)).map u8v))
 rw [gg (by simp) hl (ar.own (i:=0) s rfl),iI]
 exact hK _ _ (Sp.setRow s (j:=0) rfl _)
theorem BP {i:Nat} {id:AId} {h:List UInt8} (hs:Sp F0 G0 ps G) (hi:ps[i]? = some (ar id (.agg (h.map u8v)))) (hl:h.length = 32):lq T G aj (.ptr id [] 0) = some (.agg (h.map u8v)):=bE hl (ar.own hs hi)
theorem iW.use {key text:List UInt8} (hk:key.length = 32) (hl:text.length ≤ 281474976700000) (hQ:∀ G',Ch [] G [] G' -> Q (.agg ((mac key text).map u8v)) G'):al P iW.n [.agg (key.map u8v),.str text] G Q:=by
 refine iW.sound ?_
 unfold iW.S
 rw [kM]
 intro i1 f1
 have s1:=(Sp.nil G).row f1 (.agg (key.map u8v))
 intro i3 f3
 have s3:=s1.row f3 (.agg ((List.replicate 32 (0:UInt8)).map u8v))
 rw [BP (i:=1) s3 rfl hk,aa]
 refine jB.use hk (by omega) fun G7 c7=>?_
 have s7:=s3.tmp c7
 have hm:(mac key text).length = 32:=gI _
 rw [gg (by simp) hm (ar.own (i:=0) s7 rfl),iI,bE hm (ah.fc _ _ _),aa]
 exact hQ _ (Sp.setRow s7 (j:=0) rfl (.agg ((mac key text).map u8v))).ch
theorem dK.use {key text:List UInt8} (hk:key.length = 32) (hl:text.length ≤ 140737488354000) (hQ:∀ G',Ch [] G [] G' -> Q (.agg ((mac key text).map u8v)) G'):al P dK.n [.agg (key.map u8v),.str text] G Q:=by
 refine dK.sound ?_
 unfold dK.S
 rw [kM]
 intro i1 f1
 have s1:=(Sp.nil G).row f1 (.agg (key.map u8v))
 intro i3 f3
 have s3:=s1.row f3 (.agg ((List.replicate 32 (0:UInt8)).map u8v))
 rw [BP (i:=1) s3 rfl hk,aa]
 refine fx.use hk hl fun G7 c7=>?_
 have s7:=s3.tmp c7
 have hm:(mac key text).length = 32:=gI _
 rw [gg (by simp) hm (ar.own (i:=0) s7 rfl),iI,bE hm (ah.fc _ _ _),aa]
 exact hQ _ (Sp.setRow s7 (j:=0) rfl (.agg ((mac key text).map u8v))).ch
theorem dW.use {key text sig:List UInt8} (hk:key.length = 32) (hs:sig.length = 32) (hl:text.length ≤ 140737488354000) (hQ:∀ G',Ch [] G [] G' -> Q (.bool (decide (mac key text = sig))) G') :
  al P dW.n [.agg (key.map u8v),.str text,.agg (sig.map u8v)] G Q:=by
 refine dW.sound ?_
 unfold dW.S
 intro i1 f1
 have s1:=(Sp.nil G).row f1 (.agg (key.map u8v))
 intro i3 f3
 have s3:=s1.row f3 (.agg (sig.map u8v))
 rw [BP (i:=1) s3 rfl hk,aa]
 refine dK.use hk hl fun G7 c7=>?_
 have s7:=s3.tmp c7
 obtain ⟨m,hm,hml⟩:∃ m,mac key text = m /\ m.length = 32:=⟨_,rfl,gI _⟩
 rw [hm] at hQ ⊢
 refine mZ s7 hml fun i8 G10 s10=>?_
 intro R11 hR11
 have loop:∀ (n j:Nat),32 - j = n -> j ≤ 32 -> m.take j = sig.take j -> R11 [.ptr i3 [] 0,.ptr i8 [] 0,.int .i64 (j:Int)] G10:=by
  intro n
  induction n with
  | zero=>
   intro j hn hj he
   have:j = 32:=by omega
   subst this
   rw [List.take_of_length_le (by omega),List.take_of_length_le (by omega)] at he
   refine hR11 _ _ _ _ ?_
   rw [aH,aa,aE]
   refine ⟨fun h=>absurd h (by decide),fun _=>?_⟩
   have:=hQ _ s10.ch
   rw [decide_eq_true he] at this
   exact this
  | succ n ih=>
   intro j hn hj he
   refine hR11 _ _ _ _ ?_
   rw [aH,aa,aE]
   refine ⟨fun _=>?_,fun h=>absurd (by omega) h⟩
   rw [mD (by omega),aa,o4 (by omega) (ar.own (i:=0) s10 rfl),aa,mD (by omega),aa,o4 (by omega) (ar.own (i:=1) s10 rfl),aa]
   show wv (aw T .neq cg (.int .u8 (m[j]'(by omega)).toNat) (.int .u8 (sig[j]'(by omega)).toNat)) _
   rw [dy,aa,fg]
   refine ⟨fun hne=>?_,fun heq=>?_⟩
   ·have:=hQ _ s10.ch
    rw [decide_eq_false (fun e=>hne (by subst e; rfl))] at this
    exact this
   ·rw [wi,aa,i64_in (by omega) (by omega)]
    refine ih (j + 1) (by omega) (by omega) ?_
    rw [List.take_succ_eq_append_getElem (by omega),List.take_succ_eq_append_getElem (by omega),he]
    have:m[j]'(by omega) = sig[j]'(by omega):=UInt8.toNat_inj.1 (by omega)
    rw [this]
 exact loop 32 0 rfl (by omega) rfl
end
end Go.Esc.M
