import Derived.Test.YtkojimdacnohpaaGreatDoorLUj
import Derived.Test.YtkojimdacnohpaaGreatDoorLUb
import Derived.Test.YtkojimdacnohpaaGreatDoorLHa
import Derived.Test.YtkojimdacnohpaaGreatDoorLLib
import Derived.Test.YtkojimdacnohpaaGreatDoorLDb
set_option linter.unusedSimpArgs false
set_option linter.unusedVariables false
set_option maxRecDepth 20000
namespace Go.Esc.M
open Go Go.Esc
def Kx (u:aK) (t:Bool) (b:aK):Bool:=if b.kind = 1 /\ b.id = u.id then decide (u.kind = 3) || decide (sha u.hash = b.hash) else t
def Kw (u:aK) (B:List aK):Bool:=B.foldl (Kx u) false
def Je (A B:List aK):Prop:=∀ i u,A[i]? = some u -> if u.kind = 1 then u.id = ((qD (A.take i):Nat):Int) else Kw u B = true /\ ∀ k v,k < i -> A[k]? = some v -> v.kind ≠ 1 -> v.id ≠ u.id
theorem Db {u:aK} (h:dC u = true):u.kind = 1 \/ u.kind = 2 \/ u.kind = 3:=by
 obtain ⟨_,_,hk⟩:=kO h
 omega
theorem zj {A:List aK} {id:Int} (hv:∀ a ∈ A,dC a = true) (h:(fW true id A).isSome = false):∀ a ∈ A,a.kind ≠ 1 -> a.id ≠ id:=by
 intro a ha hk e
 unfold fW at h
 rw [Option.isSome_eq_false_iff,Option.isNone_iff_eq_none,List.find?_eq_none] at h
 refine h a ha ?_
 unfold vY
 rw [decide_eq_true e]
 rcases Db (hv a ha) with h1 | h1 | h1
 ·exact absurd h1 hk
 ·simp [h1]
 ·simp [h1]
theorem rl {B:List aK} {id:Int} (h:(fW false id B).isSome = true):∃ b,fW false id B = some b /\ b ∈ B /\ b.kind = 1 /\ b.id = id:=by
 obtain ⟨b,hb⟩:=Option.isSome_iff_exists.1 h
 refine ⟨b,hb,List.mem_of_find?_eq_some hb,?_⟩
 have:=List.find?_some hb
 unfold vY at this
 simp only [cond_false,Bool.and_eq_true,decide_eq_true_eq] at this
 exact ⟨this.2,this.1⟩
theorem mh {A O:List aK} {u:aK} (h:jW A O u = 0):dC u = true /\ (u.kind = 1 -> u.id = (qD A:Nat)) /\ (u.kind ≠ 1 -> (fW false u.id O).isSome = true /\ (fW true u.id A).isSome = false /\ ¬ (u.kind = 2 /\ sha u.hash ≠ ((fW false u.id O).getD aK.zero).hash)):=by
 unfold jW at h
 split at h
 ·cases h
 split at h
 ·cases h
 rename_i hv
 have hv:dC u = true:=by simpa using hv
 split at h
 ·rename_i hk
  split at h
  ·rename_i hid
   exact ⟨hv,fun _=>hid,fun hn=>absurd hk hn⟩
  ·cases h
 rename_i hk
 split at h
 ·cases h
 rename_i h1
 split at h
 ·cases h
 rename_i h2
 split at h
 ·cases h
 rename_i h3
 exact ⟨hv,fun hn=>absurd hn hk,fun _=>⟨(Bool.not_eq_false _).mp h1,(Bool.not_eq_true _).mp h2,h3⟩⟩
theorem Je.nil (B:List aK):Je [] B:=fun i u h=>by simp at h
def Kl (A:List aK) (id:Int):Bool:=A.any fun a=>!decide (a.kind = 1) && decide (a.id = id)
theorem Ev {A:List aK} {id:Int} (hv:∀ a ∈ A,dC a = true):Kl A id = (fW true id A).isSome:=by
 cases h:(fW true id A).isSome with
 | false=>
  refine List.any_eq_false.2 fun a ha=>?_
  have:=zj hv h a ha
  by_cases hk:a.kind = 1
  ·simp [hk]
  ·simp [hk,this hk]
 | true=>
  obtain ⟨b,hb⟩:=Option.isSome_iff_exists.1 h
  refine List.any_eq_true.2 ⟨b,List.mem_of_find?_eq_some hb,?_⟩
  have:=List.find?_some hb
  unfold vY at this
  simp only [cond_true,Bool.and_eq_true,Bool.or_eq_true,decide_eq_true_eq] at this
  have hk:b.kind ≠ 1:=by omega
  simp [hk,this.1]
end Go.Esc.M
set_option linter.unusedSimpArgs false
set_option linter.unusedVariables false
set_option maxRecDepth 20000
namespace Go.Esc.M
open Go Go.Esc
section
variable {F0:List AId} {G0 G:ah} {ps:List LP} {Q:ag -> ah -> Prop}
theorem LN {v:ag} {l:List aK} {j:Nat} {p:aK} (h:fV 36 G v (l.map aK.av)) (hj:l[j]? = some p) :
  ∃ a b,aL T ak v (.int .i64 (j:Int)) = some a /\ bx T aI a 1 = some b /\ af T G ai b = some (.int .i64 p.id) :=
 jb h hj (f:=1) rfl cA (by decide) rfl rfl rfl
theorem Lk {v:ag} {l:List aK} {j:Nat} {p:aK} (h:fV 36 G v (l.map aK.av)) (hj:l[j]? = some p) :
  ∃ a b,aL T ak v (.int .i64 (j:Int)) = some a /\ bx T aI a 0 = some b /\ af T G au b = some (.int .i64 p.kind) :=
 jb h hj (f:=0) rfl hO (by decide) rfl rfl rfl
end
end Go.Esc.M
set_option linter.unusedSimpArgs false
set_option linter.unusedVariables false
set_option maxRecDepth 20000
namespace Go.Esc.M
open Go Go.Esc
theorem HP (a:Int) {t:TypeId} {T:Tbl}:aw T .shr t (.int .i64 a) (.int .u64 30) = some (.int .i64 (a / 1073741824)):=by
 rw [l9 _ _ _ _ _ _ (by decide)]
 have h1:min (30:Int).toNat IntKind.i64.bits = 30:=by decide
 have h2:(2:Int) ^ 30 = 1073741824:=by decide
 rw [h1,h2,Int.fdiv_eq_ediv_of_nonneg _ (by decide)]
theorem I9 (a:Int) {t:TypeId} {T:Tbl}:aw T .and t (.int .i64 a) (.int .i64 1073741823) = some (.int .i64 (a % 1073741824)):=by
 have:=DE a 30 (by decide)
 have e1:((2 ^ 30 - 1:Nat):Int) = 1073741823:=by decide
 have e2:((2 ^ 30:Nat):Int) = 1073741824:=by decide
 rw [e1,e2] at this
 rw [rL,this]
theorem LH {x y:Nat} (hx:x ≤ 1073741824) (hy:y < 1073741824) {t:TypeId} {T:Tbl}:aw T .or t (.int .i64 ((x * 1073741824:Nat):Int)) (.int .i64 (y:Int)) = some (.int .i64 ((x * 1073741824 + y:Nat):Int)):=by
 have hb:IntKind.i64.bits = 64:=rfl
 have e64:∀ z:Nat,(BitVec.ofInt 64 (z:Int)).toNat = z % 2 ^ 64:=fun z=>by rw [BitVec.ofInt_natCast,BitVec.toNat_ofNat]
 have hor:2 ^ 30 * x + y = 2 ^ 30 * x ||| y:=Nat.two_pow_add_eq_or_of_lt hy x
 have e30:(2:Nat) ^ 30 = 1073741824:=by decide
 have e64':(2:Nat) ^ 64 = 18446744073709551616:=by decide
 rw [e30,Nat.mul_comm] at hor
 have hx2:x * 1073741824 < 18446744073709551616:=by omega
 have hy2:y < 18446744073709551616:=by omega
 rw [E8,hb,BitVec.toNat_or,e64,e64,e64',Nat.mod_eq_of_lt hx2,Nat.mod_eq_of_lt hy2,<- hor,i64_in (by omega) (by omega)]
theorem K8 {x:Nat} (hx:x ≤ 1073741824) {t:TypeId} {T:Tbl}:aw T .shl t (.int .i64 (x:Int)) (.int .u64 30) = some (.int .i64 ((x * 1073741824:Nat):Int)):=by
 rw [yg _ _ _ _ _ _ (by decide)]
 have h1:min (30:Int).toNat IntKind.i64.bits = 30:=by decide
 have h2:(2:Int) ^ 30 = 1073741824:=by decide
 rw [h1,h2,i64_in (by omega) (by omega)]
 congr 2
structure Wd (n:Nat) (u l:Int):Prop where
 u1:-((n:Int) * 1073741824) ≤ u
 u2:u ≤ (n:Int) * 1073741824
 l1:-((n:Int) * 1073741824) ≤ l
 l2:l ≤ (n:Int) * 1073741824
def om (u l:Int):Int:=u * 1073741824 + l
def pY (t:Int):Int:=if t < 0 then -1 else if t < 1152921505680588800 then t else 1152921504606846977
def Dm (t:Int):Int:=if t < 0 then 0 else if t < 1152921504606846976 then t else 1152921504606846976
def amt (a:Int):Prop:=0 ≤ a /\ a ≤ 1152921504606846976
section
variable {F0:List AId} {G0 G:ah} {ps:List LP} {Q:ag -> ah -> Prop}
theorem dD {T':TypeId} {ti:TI} {id:AId} {a b:Int} (hg:G id = some (.own (bR a b))) (hT:T T' = some ti) (hf:fa ti (bR a b) = true) :
  af T G ai (.ptr id [0] 0) = some (.int .i64 a) /\ af T G ai (.ptr id [1] 1) = some (.int .i64 b) /\ af T G T' (.ptr id [] 0) = some (bR a b) :=
 ⟨dQ (c:=.int .i64 a) hg rfl rfl rfl cA rfl,dQ (c:=.int .i64 b) hg rfl rfl rfl cA rfl,cJ hT hg hf⟩
theorem zu (a b:Int):bk T ck [(0,.int .i64 a),(1,.int .i64 b)] = some (bR a b):=rfl
theorem E0:ka = bR 0 0:=rfl
theorem kN {i:Nat} {id:AId} {a b c d:Int} (hs:Sp F0 G0 ps G) (hi:ps[i]? = some (ar id (bR a b))) {K:ah -> Prop} (hK:∀ G',Sp F0 G0 (ps.set i (ar id (bR c d))) G' -> K G'):wg (ax T G ck (.ptr id [] 0) (bR c d)) K:=by
 refine fK (il fG (ar.own hs hi) rfl rfl rfl) ?_
 exact hK _ (Sp.setRow hs hi _)
theorem cR.use {n:Nat} {u l a:Int} (hw:Wd n u l) (hn:n ≤ 1073741824) (ha:amt a) (hQ:∀ u' l' G',Ch [] G [] G' -> Wd (n + 1) u' l' -> om u' l' = om u l + a -> Q (bR u' l') G'):al P cR.n [bR u l,.int .i64 a] G Q:=by
 refine cR.sound ?_
 unfold cR.S
 rw [E0]
 obtain ⟨h1,h2,h3,h4⟩:=hw
 obtain ⟨h5,h6⟩:=ha
 intro i1 f1
 have s1:=(Sp.nil G).row f1 (bR u l)
 intro i3 f3
 have s3:=s1.row f3 (bR 0 0)
 obtain ⟨l1,l2,_⟩:=dD (ar.own (i:=1) s3 rfl) fG rfl
 refine ae l1 ?_
 refine ae (HP a) ?_
 rw [bf,i64_in (by omega) (by omega),aa]
 refine ae l2 ?_
 refine ae (I9 a) ?_
 rw [bf,i64_in (by omega) (by omega),aa]
 refine ae (zu _ _) ?_
 refine kN (i:=0) s3 rfl fun G12 s12=>?_
 refine ae (dD (ar.own (i:=0) s12 rfl) fG rfl).2.2 ?_
 exact hQ _ _ _ s12.ch ⟨by omega,by omega,by omega,by omega⟩ (by unfold om; omega)
theorem dR.use {n:Nat} {u l a:Int} (hw:Wd n u l) (hn:n ≤ 1073741824) (ha:amt a) (hQ:∀ u' l' G',Ch [] G [] G' -> Wd (n + 1) u' l' -> om u' l' = om u l - a -> Q (bR u' l') G'):al P dR.n [bR u l,.int .i64 a] G Q:=by
 refine dR.sound ?_
 unfold dR.S
 rw [E0]
 obtain ⟨h1,h2,h3,h4⟩:=hw
 obtain ⟨h5,h6⟩:=ha
 intro i1 f1
 have s1:=(Sp.nil G).row f1 (bR u l)
 intro i3 f3
 have s3:=s1.row f3 (bR 0 0)
 obtain ⟨l1,l2,_⟩:=dD (ar.own (i:=1) s3 rfl) fG rfl
 refine ae l1 ?_
 refine ae (HP a) ?_
 rw [bS,i64_in (by omega) (by omega),aa]
 refine ae l2 ?_
 refine ae (I9 a) ?_
 rw [bS,i64_in (by omega) (by omega),aa]
 refine ae (zu _ _) ?_
 refine kN (i:=0) s3 rfl fun G12 s12=>?_
 refine ae (dD (ar.own (i:=0) s12 rfl) fG rfl).2.2 ?_
 exact hQ _ _ _ s12.ch ⟨by omega,by omega,by omega,by omega⟩ (by unfold om; omega)
theorem cZ.use {n:Nat} {u l:Int} (hw:Wd n u l) (hn:n ≤ 1073741824) (hQ:∀ G',Ch [] G [] G' -> Q (.int .i64 (pY (om u l))) G'):al P cZ.n [bR u l] G Q:=by
 refine cZ.sound ?_
 unfold cZ.S
 obtain ⟨h1,h2,h3,h4⟩:=hw
 intro i1 f1
 have s1:=(Sp.nil G).row f1 (bR u l)
 obtain ⟨l1,l2,_⟩:=dD (ar.own (i:=0) s1 rfl) fG rfl
 refine ae l1 ?_
 refine ae l2 ?_
 refine ae (HP l) ?_
 rw [bf,i64_in (by omega) (by omega),aa]
 have hQ:=hQ _ s1.ch
 have ht:om u l = (u + l / 1073741824) * 1073741824 + l % 1073741824:=by unfold om; omega
 unfold pY at hQ
 rw [aH,aa,aE]
 refine ⟨fun h=>?_,fun h=>?_⟩
 ·rw [if_pos (by omega)] at hQ
  exact hQ
 rw [if_neg (by omega)] at hQ
 rw [de,aa,aE]
 refine ⟨fun h2=>?_,fun h2=>?_⟩
 ·rw [if_neg (by omega)] at hQ
  exact hQ
 rw [if_pos (by omega)] at hQ
 obtain ⟨x,hx⟩:∃ x:Nat,u + l / 1073741824 = (x:Int):=⟨(u + l / 1073741824).toNat,by omega⟩
 obtain ⟨y,hy⟩:∃ y:Nat,l % 1073741824 = (y:Int):=⟨(l % 1073741824).toNat,by omega⟩
 rw [hx] at ht h h2 ⊢
 rw [hy] at ht
 refine ae (K8 (by omega)) ?_
 refine ae l2 ?_
 refine ae (I9 l) ?_
 rw [hy]
 refine ae (LH (by omega) (by omega)) ?_
 have:((x * 1073741824 + y:Nat):Int) = om u l:=by rw [ht]; omega
 rw [this]
 exact hQ
theorem xK:iJ = bR 0 0:=rfl
theorem oT (a b:Int):bk T aY [(0,.int .i64 a),(1,.int .i64 b)] = some (bR a b):=rfl
theorem jk {i:Nat} {id:AId} {a b c d:Int} (hs:Sp F0 G0 ps G) (hi:ps[i]? = some (ar id (bR a b))) {K:ah -> Prop} (hK:∀ G',Sp F0 G0 (ps.set i (ar id (bR c d))) G' -> K G'):wg (ax T G aY (.ptr id [] 0) (bR c d)) K:=by
 refine fK (il b8 (ar.own hs hi) rfl rfl rfl) ?_
 exact hK _ (Sp.setRow hs hi _)
theorem yD {i:Nat} {id:AId} {a b d:Int} (hs:Sp F0 G0 ps G) (hi:ps[i]? = some (ar id (bR a b))) {K:ah -> Prop} (hK:∀ G',Sp F0 G0 (ps.set i (ar id (bR a d))) G' -> K G'):wg (ax T G ai (.ptr id [1] 1) (.int .i64 d)) K:=by
 refine fK (km (c:=.int .i64 d) (u:=.int .i64 b) (ar.own hs hi) rfl rfl cA rfl rfl rfl) ?_
 exact hK _ (Sp.setRow hs hi _)
def wdR (t:Int):ag:=bR (t / 1152921504606846976) (t % 1152921504606846976)
def small (t:Int):Prop:=-1329227995784915872903807060280344576 ≤ t /\ t ≤ 1329227995784915872903807060280344576
theorem cU.use {t a:Int} (ht:small t) (ha:amt a) (hQ:∀ G',Ch [] G [] G' -> Q (wdR (t + a)) G'):al P cU.n [wdR t,.int .i64 a] G Q:=by
 refine cU.sound ?_
 unfold cU.S
 rw [xK]
 obtain ⟨h1,h2⟩:=ht
 obtain ⟨h5,h6⟩:=ha
 unfold wdR at hQ ⊢
 obtain ⟨U,hU⟩:∃ U,U = t / 1152921504606846976:=⟨_,rfl⟩
 obtain ⟨R,hR⟩:∃ R,R = t % 1152921504606846976:=⟨_,rfl⟩
 rw [<- hU,<- hR]
 have hR1:0 ≤ R /\ R < 1152921504606846976:=by omega
 have hU1:-1152921504606846977 ≤ U /\ U ≤ 1152921504606846977:=by omega
 have htt:t = U * 1152921504606846976 + R:=by omega
 intro i1 f1
 have s1:=(Sp.nil G).row f1 (bR U R)
 intro i3 f3
 have s3:=s1.row f3 (bR 0 0)
 have fin:∀ (c d:Int) (G':ah) (ps:List LP),Sp [] G (ar i3 (bR 0 0) :: ps) G' -> (t + a) / 1152921504606846976 = c -> (t + a) % 1152921504606846976 = d -> wg (ax T G' aY (.ptr i3 [] 0) (bR c d)) fun G10=>wv (af T G10 aY (.ptr i3 [] 0)) fun v11=>Q v11 G10:=by
  intro c d G' ps s hc hd
  refine jk (i:=0) s rfl fun G10 s10=>?_
  refine ae (dD (ar.own (i:=0) s10 rfl) b8 rfl).2.2 ?_
  rw [hc,hd] at hQ
  exact hQ _ s10.ch
 obtain ⟨l1,l2,_⟩:=dD (ar.own (i:=1) s3 rfl) b8 rfl
 rw [bC,aa,aE]
 refine ⟨fun h=>?_,fun h=>?_⟩
 ·refine ae l1 ?_
  rw [bf,i64_in (by omega) (by omega),aa]
  refine ae l2 ?_
  refine ae (oT _ _) ?_
  exact fin _ _ _ _ s3 (by omega) (by omega)
 ·refine ae l2 ?_
  rw [bf,i64_in (by omega) (by omega),aa]
  refine yD (i:=1) s3 rfl fun G14 s14=>?_
  obtain ⟨k1,k2,k3⟩:=dD (ar.own (i:=1) s14 rfl) b8 rfl
  refine ae k2 ?_
  rw [gq,aa,aE]
  refine ⟨fun h=>?_,fun h=>?_⟩
  ·refine ae k1 ?_
   rw [bf,i64_in (by omega) (by omega),aa]
   refine ae k2 ?_
   rw [bS,i64_in (by omega) (by omega),aa]
   refine ae (oT _ _) ?_
   exact fin _ _ _ _ s14 (by omega) (by omega)
  ·refine ae k3 ?_
   exact fin _ _ _ _ s14 (by omega) (by omega)
theorem dc.use {t a:Int} (ht:small t) (ha:amt a) (hQ:∀ G',Ch [] G [] G' -> Q (wdR (t - a)) G'):al P dc.n [wdR t,.int .i64 a] G Q:=by
 refine dc.sound ?_
 unfold dc.S
 rw [xK]
 obtain ⟨h1,h2⟩:=ht
 obtain ⟨h5,h6⟩:=ha
 unfold wdR at hQ ⊢
 obtain ⟨U,hU⟩:∃ U,U = t / 1152921504606846976:=⟨_,rfl⟩
 obtain ⟨R,hR⟩:∃ R,R = t % 1152921504606846976:=⟨_,rfl⟩
 rw [<- hU,<- hR]
 have hR1:0 ≤ R /\ R < 1152921504606846976:=by omega
 have hU1:-1152921504606846977 ≤ U /\ U ≤ 1152921504606846977:=by omega
 have htt:t = U * 1152921504606846976 + R:=by omega
 intro i1 f1
 have s1:=(Sp.nil G).row f1 (bR U R)
 intro i3 f3
 have s3:=s1.row f3 (bR 0 0)
 have fin:∀ (c d:Int) (G':ah) (ps:List LP),Sp [] G (ar i3 (bR 0 0) :: ps) G' -> (t - a) / 1152921504606846976 = c -> (t - a) % 1152921504606846976 = d -> wg (ax T G' aY (.ptr i3 [] 0) (bR c d)) fun G10=>wv (af T G10 aY (.ptr i3 [] 0)) fun v11=>Q v11 G10:=by
  intro c d G' ps s hc hd
  refine jk (i:=0) s rfl fun G10 s10=>?_
  refine ae (dD (ar.own (i:=0) s10 rfl) b8 rfl).2.2 ?_
  rw [hc,hd] at hQ
  exact hQ _ s10.ch
 obtain ⟨l1,l2,_⟩:=dD (ar.own (i:=1) s3 rfl) b8 rfl
 rw [bC,aa,aE]
 refine ⟨fun h=>?_,fun h=>?_⟩
 ·refine ae l1 ?_
  rw [bS,i64_in (by omega) (by omega),aa]
  refine ae l2 ?_
  refine ae (oT _ _) ?_
  exact fin _ _ _ _ s3 (by omega) (by omega)
 ·refine ae l2 ?_
  rw [bS,i64_in (by omega) (by omega),aa]
  refine yD (i:=1) s3 rfl fun G14 s14=>?_
  obtain ⟨k1,k2,k3⟩:=dD (ar.own (i:=1) s14 rfl) b8 rfl
  refine ae k2 ?_
  rw [aH,aa,aE]
  refine ⟨fun h=>?_,fun h=>?_⟩
  ·refine ae k1 ?_
   rw [bS,i64_in (by omega) (by omega),aa]
   refine ae k2 ?_
   rw [bf,i64_in (by omega) (by omega),aa]
   refine ae (oT _ _) ?_
   exact fin _ _ _ _ s14 (by omega) (by omega)
  ·refine ae k3 ?_
   exact fin _ _ _ _ s14 (by omega) (by omega)
theorem eG.use {t:Int} (ht:small t) (hQ:∀ G',Ch [] G [] G' -> Q (.int .i64 (Dm t)) G'):al P eG.n [wdR t] G Q:=by
 refine eG.sound ?_
 unfold eG.S
 unfold wdR
 obtain ⟨U,hU⟩:∃ U,U = t / 1152921504606846976:=⟨_,rfl⟩
 obtain ⟨R,hR⟩:∃ R,R = t % 1152921504606846976:=⟨_,rfl⟩
 rw [<- hU,<- hR]
 intro i1 f1
 have s1:=(Sp.nil G).row f1 (bR U R)
 obtain ⟨l1,l2,_⟩:=dD (ar.own (i:=0) s1 rfl) b8 rfl
 have hQ:=hQ _ s1.ch
 unfold Dm at hQ
 refine ae l1 ?_
 rw [aH,aa,aE]
 refine ⟨fun h=>?_,fun h=>?_⟩
 ·rw [if_pos (by omega)] at hQ
  exact hQ
 rw [if_neg (by omega)] at hQ
 refine ae l1 ?_
 rw [de,aa,aE]
 refine ⟨fun h2=>?_,fun h2=>?_⟩
 ·rw [if_neg (by omega)] at hQ
  exact hQ
 rw [if_pos (by omega)] at hQ
 refine ae l2 ?_
 have e:ag.int .i64 R = .int .i64 t:=by
  have:R = t:=by omega
  rw [this]
 rw [e]
 exact hQ
end
end Go.Esc.M
set_option linter.unusedSimpArgs false
set_option linter.unusedVariables false
set_option maxRecDepth 20000
namespace Go.Esc
open Go Go.RowKit
theorem iu.jf {n:Nat} {G:ah} {v:ag} {vs:List ag} (h:iu n G v vs):fV n G v vs:=by
 rcases h with ⟨id,p,st,off,len,cap,rfl,_,h⟩ | h
 ·exact .inl ⟨_,_,_,_,_,_,rfl,h⟩
 ·exact .inr h
theorem iu.mv {n:Nat} {G G':ah} {E:List AId} {v:ag} {vs:List ag} (h:iu n G v vs) (hc:Ch [] G E G'):iu n G' v vs:=by
 rcases h with ⟨id,p,st,off,len,cap,rfl,hl,h⟩ | h
 ·refine .inl ⟨_,_,_,_,_,_,rfl,hl,oY (fun j o hj=>hc.others j o hj (by simp)) h⟩
 ·exact .inr h
theorem iu.take {T:Tbl} {t e:TypeId} {i ie:TI} (ht:T t = some i) (hd:i.desc = .slice e) (he:T e = some ie) {G:ah} {v:ag} {vs:List ag} (h:iu ie.size G v vs) {k:IntKind} {m:Nat} {x:Int} (hx:x = (m:Int)) (hm:m ≤ vs.length) :
  ∃ v',fj T t v none (some (.int k x)) none = some v' /\ iu ie.size G v' (vs.take m):=by
 subst hx
 rcases h with ⟨id,p,st,off,len,cap,rfl,hlc,h⟩ | ⟨rfl,rfl⟩
 ·obtain ⟨cs,h1,h0,h2,h3,rfl,harr⟩:=ll h
  have hl:((cs.drop st).take len).length = len:=by rw [List.length_take,List.length_drop]; omega
  rw [hl] at hm
  refine ⟨.slice id p st off m cap,?_,.inl ⟨id,p,st,off,m,cap,rfl,by omega,?_⟩⟩
  ·simp only [fj,ht,hd,he]
   rw [nE (by omega)]
   simp
  ·simp only [fT,harr]
   rw [if_pos (by omega),List.take_take,Nat.min_eq_left hm]
 ·simp at hm
  subst hm
  exact ⟨.nilSlice,by simp [fj,ht,hd,he,jh,j7],.inr ⟨rfl,by simp⟩⟩
def oR (es:List (Int × Int)):List (ag × ag):=es.map fun p=>(.int .i64 p.1,.int .i64 p.2)
def oO:List (Int × Int) -> Int -> Option Int
 | [],_=>none
 | p :: es,k=>if k = p.1 then some p.2 else oO es k
theorem sX (k:Int):∀ (es:List (Int × Int)) (i:Nat),match oO es k with
  | some v=>∃ j,nv (.int .i64 k) (oR es) i = some (some (j,.int .i64 v))
  | none=>nv (.int .i64 k) (oR es) i = some none
 | [],i=>rfl
 | p :: es,i=>by
  unfold oO
  by_cases h:k = p.1
  ·rw [if_pos h]
   exact ⟨i,by simp [oR,nv,tz,h]⟩
  ·rw [if_neg h]
   have ih:=sX k es (i + 1)
   have e:nv (.int .i64 k) (oR (p :: es)) i = nv (.int .i64 k) (oR es) (i + 1):=by simp [oR,nv,tz,h]
   rw [e]
   exact ih
theorem uP (k:Int):∀ (es:List (Int × Int)) (a v:Int),oO (es ++ [(a,v)]) k = match oO es k with
  | some x=>some x
  | none=>if k = a then some v else none
 | [],a,v=>rfl
 | p :: es,a,v=>by
  have ih:=uP k es a v
  simp only [List.cons_append,oO]
  by_cases h:k = p.1
  ·rw [if_pos h,if_pos h]
  ·rw [if_neg h,if_neg h,ih]
theorem wV (es:List (Int × Int)) (a v:Int):oR es ++ [(.int .i64 a,.int .i64 v)] = oR (es ++ [(a,v)]):=by simp [oR]
end Go.Esc
namespace Go.Esc.M
open Go Go.Esc
theorem tv0 (v:ag) (e:ag):aW (.tuple [v,e]) 0 = some v:=rfl
theorem tv1 (v:ag) (e:ag):aW (.tuple [v,e]) 1 = some e:=rfl
def lr (id:Int) (u:aK):Bool:=decide (u.kind ≠ 1) && (decide (u.id = id) && dC u)
def je (id:Int):List aK -> Int
 | []=>0
 | u :: l=>if lr id u = true then u.kind else je id l
theorem rh {id:Int} {u:aK} (h:lr id u = true):u.kind ≠ 0:=by
 simp only [lr,Bool.and_eq_true,decide_eq_true_eq] at h
 have:=(kO h.2.2).2.2
 omega
theorem pQ (id:Int):∀ (a b:List aK),je id (a ++ b) = if je id a = 0 then je id b else je id a
 | [],b=>rfl
 | u :: a,b=>by
  have ih:=pQ id a b
  by_cases h:lr id u = true
  ·have hk:=rh h
   have e1:je id (u :: (a ++ b)) = u.kind:=if_pos h
   have e2:je id (u :: a) = u.kind:=if_pos h
   rw [List.cons_append,e1,e2,if_neg hk]
  ·have e1:je id (u :: (a ++ b)) = je id (a ++ b):=if_neg h
   have e2:je id (u :: a) = je id a:=if_neg h
   rw [List.cons_append,e1,e2,ih]
theorem vT {id:Int} {l:List aK} {j:Nat} {u:aK} (h:l[j]? = some u):je id (l.take (j + 1)) = if je id (l.take j) = 0 then (if lr id u = true then u.kind else 0) else je id (l.take j):=by
 rw [List.take_add_one,h,pQ]
 rfl
def Ek (x:Int):Option Int:=if x = 0 then none else some x
def dP (l:List aK) (n:Int):List aK:=l.take n.toNat
theorem o8 {l:List aK} {n:Int} (h:∀ u ∈ l,u.ok):∀ u ∈ dP l n,u.ok:=fun u hu=>h u (List.mem_of_mem_take hu)
theorem mm (l:List aK) (n:Int):(dP l n).length ≤ l.length:=by unfold dP; rw [List.length_take]; omega
def qE (test:Int -> Bool) (l:List aK):List Int:=(l.filter fun u=>decide (u.kind = 1) && (dC u && test u.id)).map (·.amount)
section
variable {F0:List AId} {G0 G:ah} {ps:List LP} {Q:ag -> ah -> Prop}
theorem HU {es:List (Int × Int)} {mid:AId} {k:Int} (hg:G mid = some (.map (oR es))):ja T G ju (.map mid) (.int .i64 k) false = some (.int .i64 ((oO es k).getD 0)):=by
 have hf:jX jy.desc (.int .i64 k) = true:=rfl
 have h:=sX k es 0
 have hd:kh.desc = .map ai au:=rfl
 have hz:mf.zero = .int .i64 0:=rfl
 simp only [ja,oM,hd,cA,hO,hf,if_true,rY,hg]
 cases hl:oO es k with
 | none=>rw [hl] at h; rw [h]; simp [hz]
 | some v=>rw [hl] at h; obtain ⟨j,h⟩:=h; rw [h]; simp
theorem Gm {es:List (Int × Int)} {mid:AId} {k:Int} (hg:G mid = some (.map (oR es))):ja T G ju (.map mid) (.int .i64 k) true = some (.tuple [.int .i64 ((oO es k).getD 0),.bool (oO es k).isSome]):=by
 have hf:jX jy.desc (.int .i64 k) = true:=rfl
 have h:=sX k es 0
 have hd:kh.desc = .map ai au:=rfl
 have hz:mf.zero = .int .i64 0:=rfl
 simp only [ja,oM,hd,cA,hO,hf,if_true,rY,hg]
 cases hl:oO es k with
 | none=>rw [hl] at h; rw [h]; simp [hz]
 | some v=>rw [hl] at h; obtain ⟨j,h⟩:=h; rw [h]; simp
set_option maxHeartbeats 1000000 in
theorem eF.use {v:ag} {l:List aK} (hl:fV 36 G v (l.map aK.av)) (hok:∀ u ∈ l,u.ok) (hlen:l.length ≤ 1048576)
  (hQ:∀ mid es G',(∀ id,oO es id = Ek (je id l)) -> Sp [] G [mX mid (oR es)] G' -> Q (.map mid) G'):al P eF.n [v] G Q:=by
 refine eF.sound ?_
 unfold eF.S
 intro mid f1
 have s1:=(Sp.nil G).new (p:=mX mid (oR [])) ⟨ah.fc _ _ _,rfl⟩ (Ch.new (o:=.map []) f1)
 refine ae (fy (hl.ch' s1.ch)) ?_
 intro R hR
 have loop:∀ (m j:Nat) (es:List (Int × Int)) (G':ah),l.length - j = m -> j ≤ l.length -> (∀ id,oO es id = Ek (je id (l.take j))) -> Sp [] G [mX mid (oR es)] G' -> R [.map mid,v,.int .i64 (l.length:Int),.int .i64 (j:Int)] G':=by
  intro m
  induction m with
  | zero=>
   intro j es G' hm hj hes sp
   refine hR _ _ _ _ _ ?_
   rw [aH,aa,decide_eq_false (by omega),aM]
   rw [List.take_of_length_le (by omega)] at hes
   exact hQ _ _ _ hes sp
  | succ m ih=>
   intro j es G' hm hj hes sp
   obtain ⟨u,hu⟩:∃ u,l[j]? = some u:=⟨_,List.getElem?_eq_getElem (by omega)⟩
   have huo:=hok u (List.mem_of_getElem? hu)
   refine hR _ _ _ _ _ ?_
   rw [aH,aa,decide_eq_true (by omega),aX]
   have ev:aw T .add au (.int .i64 (j:Int)) (.int .i64 1) = some (.int .i64 ((j + 1:Nat):Int)):=by
    rw [bf,i64_in (by omega) (by omega)]
    rfl
   obtain ⟨a,e1,e2⟩:=oF (hl.ch' sp.ch) hu
   refine ae e1 ?_
   refine ae e2 ?_
   refine C3 sp huo fun i13 G15 s15=>?_
   obtain ⟨l0,l1,l2,l3,l4,l5⟩:=dh (i:=0) s15 rfl huo
   refine ae l1 ?_
   refine ae (Gm (mX.own (i:=1) s15 rfl)) ?_
   refine ae (tv0 _ _) ?_
   refine ae (tv1 _ _) ?_
   intro J32
   have skip:∀ G26,Sp [] G [ar i13 u.av,mX mid (oR es)] G26 -> (lr u.id u = false \/ je u.id (l.take j) ≠ 0) -> J32 (.bool false) G26:=by
    intro G26 s26 hno
    simp -zeta only [J32,aM]
    refine ae ev (ih (j + 1) es G26 (by omega) (by omega) (fun id=>?_) (s26.erase 0))
    rw [hes id,vT hu]
    congr 1
    by_cases h0:je id (l.take j) = 0
    ·rw [if_pos h0,h0]
     by_cases hr:lr id u = true
     ·have hid:u.id = id:=by
       simp only [lr,Bool.and_eq_true,decide_eq_true_eq] at hr
       exact hr.2.1
      subst hid
      rcases hno with hno | hno
      ·rw [hr] at hno; cases hno
      ·exact absurd h0 hno
     ·rw [if_neg hr]
    ·rw [if_neg h0]
   rw [fN,aa]
   have hlk:=hes u.id
   by_cases h0:je u.id (l.take j) = 0
   ·rw [h0] at hlk
    have hlk:oO es u.id = none:=hlk
    rw [hlk]
    show brB (some (.bool true)) _ _
    rw [aX]
    refine ae l0 ?_
    rw [dy,aa]
    by_cases hk:u.kind = 1
    ·rw [decide_eq_true hk,Bool.not_true,aM]
     exact skip _ s15 (.inl (by simp [lr,hk]))
    ·rw [decide_eq_false hk,Bool.not_false,aX]
     refine ae l5 ?_
     refine fX.use huo fun G25 c25=>?_
     have s25:=s15.tmp c25
     cases hv:dC u with
     | false=>exact skip _ s25 (.inl (by simp [lr,hv]))
     | true=>
      simp -zeta only [J32,aX]
      obtain ⟨k0,k1,_,_,_,_⟩:=dh (i:=0) s25 rfl huo
      refine ae k1 ?_
      refine ae k0 ?_
      have hfd:=sX u.id es 0
      rw [hlk] at hfd
      refine BG (T:=T) (i:=kh) (r:=none) oM rfl cA (mX.own (i:=1) s25 rfl) rfl hfd ?_
      have s30:=Sp.sH (j:=1) s25 rfl (oR (es ++ [(u.id,u.kind)]))
      rw [<- wV] at s30
      refine ae ev (ih (j + 1) (es ++ [(u.id,u.kind)]) _ (by omega) (by omega) (fun id=>?_) ?_)
      ·rw [uP,hes id,vT hu]
       by_cases hz:je id (l.take j) = 0
       ·rw [if_pos hz,hz]
        show (if id = u.id then some u.kind else none) = _
        by_cases hid:id = u.id
        ·subst hid
         have hr:lr u.id u = true:=by simp [lr,hk,hv]
         rw [if_pos rfl,if_pos hr,Ek,if_neg (rh hr)]
        ·have hr:lr id u = false:=by
          have:¬ u.id = id:=fun h=>hid h.symm
          simp [lr,this]
         rw [if_neg hid,hr]
         rfl
       ·rw [if_neg hz]
        unfold Ek
        rw [if_neg hz]
      ·rw [<- wV]
       exact s30.erase 0
   ·have hlk:oO es u.id = some (je u.id (l.take j)):=by rw [hlk,Ek,if_neg h0]
    rw [hlk]
    show brB (some (.bool false)) _ _
    rw [aM]
    exact skip _ s15 (.inr h0)
 exact loop l.length 0 [] _ rfl (by omega) (fun id=>rfl) s1
end
end Go.Esc.M
set_option linter.unusedSimpArgs false
set_option linter.unusedVariables false
set_option maxRecDepth 20000
namespace Go.Esc.M
open Go Go.Esc
section
variable {F0:List AId} {G0 G:ah} {ps:List LP} {Q:ag -> ah -> Prop}
theorem cO.use {v:ag} {l:List aK} {id:Int} (hl:fV 36 G v (l.map aK.av)) (hok:∀ u ∈ l,u.ok) (hlen:l.length ≤ 1048576) (hQ:∀ G',Ch [] G [] G' -> Q (.int .i64 (je id l)) G'):al P cO.n [v,.int .i64 id] G Q:=by
 refine cO.sound ?_
 unfold cO.S
 intro R hR
 have loop:∀ (m j:Nat) (G':ah),l.length - j = m -> j ≤ l.length -> je id (l.take j) = 0 -> Ch [] G [] G' -> R [v,.int .i64 id,.int .i64 (j:Int)] G':=by
  intro m
  induction m with
  | zero=>
   intro j G' hm hj h0 hc
   refine hR _ _ _ _ ?_
   refine ae (fy (hl.ch' hc)) ?_
   rw [aH,aa,decide_eq_false (by omega),aM]
   rw [List.take_of_length_le (by omega)] at h0
   rw [h0] at hQ
   exact hQ _ hc
  | succ m ih=>
   intro j G' hm hj h0 hc
   obtain ⟨u,hu⟩:∃ u,l[j]? = some u:=⟨_,List.getElem?_eq_getElem (by omega)⟩
   have huo:=hok u (List.mem_of_getElem? hu)
   refine hR _ _ _ _ ?_
   refine ae (fy (hl.ch' hc)) ?_
   rw [aH,aa,decide_eq_true (by omega),aX]
   have hnx:=vT (id:=id) hu
   rw [if_pos h0] at hnx
   intro J25
   have no:∀ G',Ch [] G [] G' -> lr id u = false -> J25 (.bool false) G':=by
    intro G' hc hr
    simp -zeta only [J25,aM]
    rw [bf,i64_in (by omega) (by omega),aa]
    refine ih (j + 1) G' (by omega) (by omega) ?_ hc
    rw [hnx,hr]
    rfl
   obtain ⟨a,b,e1,e2,e3⟩:=Lk (hl.ch' hc) hu
   refine ae e1 ?_
   refine ae e2 ?_
   refine ae e3 ?_
   rw [dy,aa]
   by_cases hk:u.kind = 1
   ·rw [decide_eq_true hk,Bool.not_true,aM]
    exact no G' hc (by simp [lr,hk])
   ·rw [decide_eq_false hk,Bool.not_false,aX]
    obtain ⟨a,b,e1,e2,e3⟩:=LN (hl.ch' hc) hu
    refine ae e1 ?_
    refine ae e2 ?_
    refine ae e3 ?_
    rw [bC,aa]
    by_cases hid:u.id = id
    ·rw [decide_eq_true hid,aX]
     obtain ⟨a,e1,e2⟩:=oF (hl.ch' hc) hu
     refine ae e1 ?_
     refine ae e2 ?_
     refine cy.use huo fun G19 c19=>?_
     have c19:Ch [] G [] G19:=hc.trans c19
     cases hv:dC u with
     | false=>exact no G19 c19 (by simp [lr,hv])
     | true=>
      simp -zeta only [J25,aX]
      obtain ⟨a,b,e1,e2,e3⟩:=Lk (hl.ch' c19) hu
      refine ae e1 ?_
      refine ae e2 ?_
      refine ae e3 ?_
      have hr:lr id u = true:=by simp [lr,hk,hid,hv]
      have he:je id l = u.kind:=by
       have:l = l.take (j + 1) ++ l.drop (j + 1):=(List.take_append_drop _ _).symm
       rw [this,pQ,hnx,if_pos hr,if_neg (rh hr)]
      rw [he] at hQ
      exact hQ _ c19
    ·rw [decide_eq_false hid,aM]
     exact no G' hc (by simp [lr,hid])
 exact loop l.length 0 G rfl (by omega) rfl (Ch.refl _ _)
theorem KQ {G G':ah} {E:List AId} {j:AId} {o:mY} (hc:Ch [] G E G') (h:G j = some o):G' j = some o:=hc.others j o h (by simp)
def kp (mine others:List aK) (fixed:Int):Nat:=(qE (fun id=>decide (je id (dP others fixed) = 0)) mine).length
end
end Go.Esc.M
set_option linter.unusedSimpArgs false
set_option linter.unusedVariables false
set_option maxRecDepth 20000
namespace Go.Esc.M
open Go Go.Esc
def Bm (others:List aK) (fp:Int) (id:Int):Bool:=!decide (je id (dP others fp) = 3)
def Bl (mine:List aK) (fo:Int) (id:Int):Bool:=decide (je id (dP mine fo) = 2)
def KR (b:Int):Int:=if 1152921504606846976 < b then 1152921504606846976 else b
def Bq (base:Int) (mine others:List aK) (fo fp:Int):Int :=
 if base < 0 then 0 else Dm (KR base - (qE (Bm others fp) mine).sum + (qE (Bl mine fo) others).sum)
theorem Gh {A:List Int} (h:∀ a ∈ A,amt a):0 ≤ A.sum /\ A.sum ≤ (A.length:Int) * 1152921504606846976:=by
 induction A with
 | nil=>simp
 | cons a A ih=>
  obtain ⟨h1,h2⟩:=ih fun x hx=>h x (by simp [hx])
  obtain ⟨h3,h4⟩:=h a (by simp)
  rw [List.sum_cons,List.length_cons]
  constructor
  ·omega
  ·push_cast
   omega
section
variable {F0:List AId} {G0 G:ah} {ps:List LP} {Q:ag -> ah -> Prop}
theorem kU {id:AId} {a b:Int} (hg:G id = some (.own (bR a b))) :
  af T G au (.ptr id [0] 0) = some (.int .i64 a) /\ af T G au (.ptr id [1] 1) = some (.int .i64 b) /\ af T G bG (.ptr id [] 0) = some (bR a b) :=
 ⟨dQ (c:=.int .i64 a) hg rfl rfl rfl hO rfl,dQ (c:=.int .i64 b) hg rfl rfl rfl hO rfl,cJ fR hg rfl⟩
end
end Go.Esc.M
set_option linter.unusedSimpArgs false
set_option linter.unusedVariables false
set_option maxRecDepth 20000
namespace Go.Esc.M
open Go Go.Esc
section
variable {F0:List AId} {G0 G:ah} {ps:List LP} {Q:ag -> ah -> Prop}
end
end Go.Esc.M
set_option linter.unusedSimpArgs false
set_option linter.unusedVariables false
set_option maxRecDepth 20000
namespace Go.Esc.M
open Go Go.Esc
def ga (a b:List ba):Prop:=∀ k:Int,a.filter (fun p=>decide (p.id = k)) = b.filter (fun p=>decide (p.id = k))
def fJ (l:List ba):Prop:=l.Pairwise fun p q=>p.id ≤ q.id
theorem ga.refl (a:List ba):ga a a:=fun _=>rfl
theorem ga.symm {a b:List ba} (h:ga a b):ga b a:=fun k=>(h k).symm
theorem ga.trans {a b c:List ba} (h:ga a b) (h':ga b c):ga a c:=fun k=>(h k).trans (h' k)
theorem ga.mem {a b:List ba} (h:ga a b) {p:ba}:p ∈ a ↔ p ∈ b:=by
 have e:=h p.id
 constructor
 ·intro hp
  have:p ∈ a.filter (fun q=>decide (q.id = p.id)):=List.mem_filter.2 ⟨hp,by simp⟩
  rw [e] at this
  exact (List.mem_filter.1 this).1
 ·intro hp
  have:p ∈ b.filter (fun q=>decide (q.id = p.id)):=List.mem_filter.2 ⟨hp,by simp⟩
  rw [<- e] at this
  exact (List.mem_filter.1 this).1
theorem ga.append {a b c d:List ba} (h:ga a b) (h':ga c d):ga (a ++ c) (b ++ d):=fun k=>by rw [List.filter_append,List.filter_append,h k,h' k]
theorem ga.swap {a b:List ba} (h:∀ p ∈ a,∀ q ∈ b,p.id ≠ q.id):ga (a ++ b) (b ++ a):=by
 intro k
 rw [List.filter_append,List.filter_append]
 by_cases ha:a.filter (fun p=>decide (p.id = k)) = []
 ·rw [ha,List.nil_append,List.append_nil]
 ·have hb:b.filter (fun p=>decide (p.id = k)) = []:=by
   rw [List.filter_eq_nil_iff]
   intro q hq hk
   obtain ⟨p,hp⟩:=List.exists_mem_of_ne_nil _ ha
   obtain ⟨h1,h2⟩:=List.mem_filter.1 hp
   have h2:=of_decide_eq_true h2
   have hk:=of_decide_eq_true hk
   exact h p h1 q hq (by rw [h2,hk])
  rw [hb,List.nil_append,List.append_nil]
theorem ga.cons {a b:List ba} (p:ba) (h:ga a b):ga (p :: a) (p :: b):=ga.append (a:=[p]) (b:=[p]) (ga.refl _) h
theorem ga.length {a b:List ba} (h:ga a b):a.length = b.length:=by
 have key:∀ (n:Nat) (a b:List ba),a.length = n -> ga a b -> a.length = b.length:=by
  intro n
  induction n with
  | zero=>
   intro a b ha h
   have:a = []:=List.length_eq_zero_iff.1 ha
   subst this
   cases b with
   | nil=>rfl
   | cons p b=>exact absurd (h.mem.2 (List.mem_cons_self)) (by simp)
  | succ n ih=>
   intro a b ha h
   match a,ha with
   | p :: a,ha=>
    have hp:p ∈ b:=h.mem.1 (by simp)
    have hf:=h p.id
    rw [List.filter_cons,if_pos (by simp)] at hf
    obtain ⟨u,v,hb,hu⟩:∃ u v,b = u ++ p :: v /\ ∀ q ∈ u,q.id ≠ p.id:=by
     have:∀ b:List ba,(∃ r,b.filter (fun q=>decide (q.id = p.id)) = p :: r) -> ∃ u v,b = u ++ p :: v /\ ∀ q ∈ u,q.id ≠ p.id:=by
      intro b
      induction b with
      | nil=>rintro ⟨r,hr⟩; cases hr
      | cons x b ihb=>
       rintro ⟨r,hr⟩
       rw [List.filter_cons] at hr
       by_cases hx:x.id = p.id
       ·rw [if_pos (by simp [hx])] at hr
        injection hr with h1 h2
        subst h1
        exact ⟨[],b,rfl,by simp⟩
       ·rw [if_neg (by simp [hx])] at hr
        obtain ⟨u,v,h1,h2⟩:=ihb ⟨r,hr⟩
        refine ⟨x :: u,v,by rw [h1]; rfl,fun q hq=>?_⟩
        rcases List.mem_cons.1 hq with rfl | hq
        ·exact hx
        ·exact h2 q hq
     exact this b ⟨_,hf.symm⟩
    have h1:ga (u ++ p :: v) (p :: (u ++ v)):=by
     have:=ga.append (ga.swap (a:=u) (b:=[p]) (fun q hq r hr=>by rw [List.mem_singleton.1 hr]; exact hu q hq)) (ga.refl v)
     simpa using this
    rw [hb] at h
    have h2:ga (p :: a) (p :: (u ++ v)):=h.trans h1
    have h3:ga a (u ++ v):=fun k=>by
     have e:=h2 k
     rw [List.filter_cons,List.filter_cons] at e
     by_cases hk:p.id = k
     ·rw [if_pos (by simp [hk]),if_pos (by simp [hk])] at e
      injection e
     ·rw [if_neg (by simp [hk]),if_neg (by simp [hk])] at e
      exact e
    have:=ih a (u ++ v) (by simpa using ha) h3
    rw [hb]
    simp only [List.length_cons,List.length_append] at this ⊢
    omega
 exact key _ a b rfl h
theorem yy:∀ {a b:List ba},fJ a -> fJ b -> ga a b -> a = b
 | [],b,_,_,h=>by
  have:=h.length
  exact (List.length_eq_zero_iff.1 this.symm).symm
 | p :: a,[],_,_,h=>by
  have:=h.length
  simp at this
 | p :: a,q :: b,ha,hb,h=>by
  have ha':=List.pairwise_cons.1 ha
  have hb':=List.pairwise_cons.1 hb
  have hpq:p.id = q.id:=by
   have h1:p ∈ q :: b:=h.mem.1 (by simp)
   have h2:q ∈ p :: a:=h.mem.2 (by simp)
   have e1:q.id ≤ p.id:=by
    rcases List.mem_cons.1 h1 with rfl | h1
    ·exact Int.le_refl _
    ·exact hb'.1 p h1
   have e2:p.id ≤ q.id:=by
    rcases List.mem_cons.1 h2 with rfl | h2
    ·exact Int.le_refl _
    ·exact ha'.1 q h2
   omega
  have hf:=h p.id
  rw [List.filter_cons,List.filter_cons,if_pos (by simp),if_pos (by simp [hpq])] at hf
  injection hf with h1 _
  subst h1
  have h3:ga a b:=fun k=>by
   have e:=h k
   rw [List.filter_cons,List.filter_cons] at e
   by_cases hk:p.id = k
   ·rw [if_pos (by simp [hk]),if_pos (by simp [hk])] at e
    injection e
   ·rw [if_neg (by simp [hk]),if_neg (by simp [hk])] at e
    exact e
  rw [yy ha'.2 hb'.2 h3]
def gX:List ba -> ba -> List ba
 | [],p=>[p]
 | q :: l,p=>if p.id < q.id then p :: q :: l else q :: gX l p
def jO (l:List ba):List ba:=l.foldl gX []
theorem Ak (p:ba):∀ {l:List ba},fJ l -> ga (gX l p) (l ++ [p]) /\ fJ (gX l p)
 | [],_=>⟨ga.refl _,by simp [gX,fJ]⟩
 | q :: l,h=>by
  have h':=List.pairwise_cons.1 h
  have ih:=Ak p h'.2
  unfold gX
  by_cases hlt:p.id < q.id
  ·rw [if_pos hlt]
   refine ⟨?_,List.pairwise_cons.2 ⟨fun x hx=>?_,h⟩⟩
   ·have:=ga.swap (a:=[p]) (b:=q :: l) (fun x hx y hy=>by
     rw [List.mem_singleton.1 hx]
     rcases List.mem_cons.1 hy with rfl | hy
     ·omega
     ·have:=h'.1 y hy; omega)
    exact this
   ·rcases List.mem_cons.1 hx with rfl | hx
    ·omega
    ·have:=h'.1 x hx; omega
  ·rw [if_neg hlt]
   refine ⟨ga.cons q ih.1,List.pairwise_cons.2 ⟨fun x hx=>?_,ih.2⟩⟩
   have:=ih.1.mem.1 hx
   rcases List.mem_append.1 this with hx | hx
   ·exact h'.1 x hx
   ·rw [List.mem_singleton.1 hx]; omega
theorem uA (l:List ba):ga (jO l) l /\ fJ (jO l):=by
 have:∀ (l acc:List ba),fJ acc -> ga (l.foldl gX acc) (acc ++ l) /\ fJ (l.foldl gX acc):=by
  intro l
  induction l with
  | nil=>intro acc h; exact ⟨by simpa using ga.refl acc,h⟩
  | cons p l ih=>
   intro acc h
   obtain ⟨h1,h2⟩:=Ak p h
   obtain ⟨h3,h4⟩:=ih (gX acc p) h2
   refine ⟨?_,h4⟩
   have:=h3.trans (ga.append h1 (ga.refl l))
   simpa using this
 have:=this l [] (by simp [fJ])
 rw [List.nil_append] at this
 exact this
theorem Jx {l s:List ba} (h1:ga s l) (h2:fJ s):s = jO l:=yy h2 (uA l).2 (h1.trans (uA l).1.symm)
end Go.Esc.M
set_option linter.unusedSimpArgs false
set_option linter.unusedVariables false
set_option maxRecDepth 20000
namespace Go.Esc.M
open Go Go.Esc
def GU (a b:Int):Int:=if a < b then -1 else if b < a then 1 else 0
theorem vc {a b:Int}:decide (GU a b < 0) = decide (a < b):=by
 unfold GU
 by_cases h:a < b
 ·rw [if_pos h,decide_eq_true h]; rfl
 ·rw [if_neg h,decide_eq_false h]
  split <;> rfl
theorem Ju (A B:List ba) (u p:ba):((A ++ u :: p :: B).set (A.length + 1) u).set A.length p = A ++ p :: u :: B:=by
 rw [List.set_append_right _ _ (by omega),Nat.add_sub_cancel_left,List.set_append_right _ _ (by omega),Nat.sub_self]
 rfl
theorem get_at (A B:List ba) (u:ba):(A ++ u :: B)[A.length]? = some u:=by
 rw [List.getElem?_append_right (by omega),Nat.sub_self]
 rfl
section
variable {F0:List AId} {G0 G:ah} {ps:List LP} {Q:ag -> ah -> Prop}
theorem eK.use {a:Int} (hQ:Q (.bool false) G):al P eK.n [.int .i64 a] G Q:=by
 refine eK.sound ?_
 unfold eK.S
 rw [nz0,aa]
 exact hQ
theorem eo.use {a b:Int} (hQ:Q (.int .i64 (GU a b)) G):al P eo.n [.int .i64 a,.int .i64 b] G Q:=by
 refine eo.sound ?_
 unfold eo.S
 refine eK.use ?_
 refine eK.use ?_
 rw [aM,aM]
 unfold GU at hQ
 rw [aH,aa,aE]
 refine ⟨fun h=>by rwa [if_pos h] at hQ,fun h=>?_⟩
 rw [if_neg h] at hQ
 rw [de,aa,aE]
 refine ⟨fun h2=>by rwa [if_pos (by omega)] at hQ,fun h2=>by rwa [if_neg (by omega)] at hQ⟩
theorem fP.use {p q:ba} (hp:p.ok) (hq:q.ok) (hQ:∀ G',Ch [] G [] G' -> Q (.int .i64 (GU p.id q.id)) G'):al P fP.n [p.av,q.av] G Q:=by
 refine fP.sound ?_
 unfold fP.S
 intro i1 f1
 have s1:=(Sp.nil G).row f1 p.av
 intro i3 f3
 have s3:=s1.row f3 q.av
 have hQ:=hQ _ s3.ch
 refine ae (ba.fld hp (ar.own (i:=1) s3 rfl)).2.1 ?_
 refine ae (ba.fld hq (ar.own (i:=0) s3 rfl)).2.1 ?_
 exact eo.use hQ
def tu:ag:=.func (.func fP.n) [] []
theorem u9 {p q:ba} {K:ag -> ah -> Prop} (hp:p.ok) (hq:q.ok) (hK:∀ G',Ch [] G [] G' -> K (.int .i64 (GU p.id q.id)) G'):oL P tu [p.av,q.av] G K:=fP.use hp hq hK
theorem kX {v:ag} {l:List ba} {j:Nat} {p:ba} {x:Int} (h:fV 35 G v (l.map ba.av)) (hx:x = (j:Int)) (hj:l[j]? = some p):∃ a,aL T aq v (.int .i64 x) = some a /\ af T G aU a = some p.av:=by
 subst hx
 exact h.at_ (k:=.i64) (i:=bU) (ie:=eB) (T:=T) (t:=aq) (e:=aU) cq rfl fk (by rw [List.getElem?_map,hj]; rfl) rfl
theorem sL {i j:Nat} {v:ag} {l:List ba} {p:ba} {x:Int} (hx:x = (j:Int)) (hs:Sp F0 G0 ps G) (hi:ps[i]? = some (bj 35 v (l.map ba.av))) (hj:j < l.length) (hp:p.ok) :
  ∃ a,aL T aq v (.int .i64 x) = some a /\ ∀ K:ah -> Prop,(∀ G',Sp F0 G0 (ps.set i (bj 35 v ((l.set j p).map ba.av))) G' -> K G') -> wg (ax T G aU a p.av) K:=by
 subst hx
 exact JC hs hi hj hp
theorem CT {v:ag} {A B:List ba} {u p:ba} {y z:Int} {K:ah -> Prop} (hu:u.ok) (hp:p.ok) (hy:y = (A.length:Int)) (hz:z = ((A.length + 1:Nat):Int)) (hs:Sp F0 G0 (bj 35 v ((A ++ u :: p :: B).map ba.av) :: ps) G)
  (hK:∀ G',Sp F0 G0 (bj 35 v ((A ++ p :: u :: B).map ba.av) :: ps) G' -> K G') :
  wv (aL T aq v (.int .i64 y)) fun v31=>wv (af T G aU v31) fun v32=>wv (aL T aq v (.int .i64 z)) fun v33=>wv (af T G aU v33) fun v34=>wv (aL T aq v (.int .i64 z)) fun v35=>wg (ax T G aU v35 v32) fun G36=>wv (aL T aq v (.int .i64 y)) fun v37=>wg (ax T G36 aU v37 v34) K:=by
 have hsl:=(bj.own (i:=0) hs rfl).is
 have g1:(A ++ u :: p :: B)[A.length]? = some u:=get_at A (p :: B) u
 have g2:(A ++ u :: p :: B)[A.length + 1]? = some p:=by
  rw [List.getElem?_append_right (by omega),Nat.add_sub_cancel_left]
  rfl
 obtain ⟨a,e1,e2⟩:=kX hsl hy g1
 refine ae e1 ?_
 refine ae e2 ?_
 obtain ⟨b,e3,e4⟩:=kX hsl hz g2
 refine ae e3 ?_
 refine ae e4 ?_
 obtain ⟨c,e5,e6⟩:=sL (i:=0) (p:=u) hz hs rfl (by simp) hu
 refine ae e5 ?_
 refine e6 _ fun G36 s36=>?_
 have s36:Sp F0 G0 (bj 35 v (((A ++ u :: p :: B).set (A.length + 1) u).map ba.av) :: ps) G36:=s36
 obtain ⟨d,e7,e8⟩:=sL (i:=0) (p:=p) hy s36 rfl (by simp) hp
 refine ae e7 ?_
 refine e8 _ fun G38 s38=>?_
 have s38:Sp F0 G0 (bj 35 v ((((A ++ u :: p :: B).set (A.length + 1) u).set A.length p).map ba.av) :: ps) G38:=s38
 rw [Ju] at s38
 exact hK _ s38
set_option maxHeartbeats 2000000 in
theorem Aw.use {v:ag} {X S Y:List ba} {a b:Int} (hok:∀ p ∈ X ++ S ++ Y,p.ok) (hlen:(X ++ S ++ Y).length ≤ 1048576) (ha:a = (X.length:Int)) (hb:b = ((X.length + S.length:Nat):Int)) (hs:Sp F0 G0 (bj 35 v ((X ++ S ++ Y).map ba.av) :: ps) G)
  (hQ:∀ S' G',ga S' S -> fJ S' -> Sp F0 G0 (bj 35 v ((X ++ S' ++ Y).map ba.av) :: ps) G' -> Q (.tuple []) G') :
  al P aV.n [v,.int .i64 a,.int .i64 b,tu] G Q:=by
 refine aV.sound ?_
 unfold aV.S
 subst ha hb
 simp only [List.length_append] at hlen
 rw [bf,i64_in (by omega) (by omega),aa]
 intro R hR
 have loop:∀ (m j:Nat) (S0 T0:List ba) (G':ah),S.length - j = m -> (j ≤ S.length \/ j = 1) -> S0.length = min j S.length -> ga (S0 ++ T0) S -> fJ S0 -> Sp F0 G0 (bj 35 v ((X ++ (S0 ++ T0) ++ Y).map ba.av) :: ps) G' ->
   R [v,.int .i64 (X.length:Int),.int .i64 ((X.length + S.length:Nat):Int),tu,.int .i64 ((X.length + j:Nat):Int)] G':=by
  intro m
  induction m with
  | zero=>
   intro j S0 T0 G' hm hj hl0 hst hso sp
   refine hR _ _ _ _ _ _ ?_
   rw [aH,aa,decide_eq_false (by omega),aM]
   have hlen2:=hst.length
   rw [List.length_append] at hlen2
   have:T0 = []:=List.length_eq_zero_iff.1 (by omega)
   subst this
   rw [List.append_nil] at hst sp
   exact hQ _ _ hst hso sp
  | succ m ih=>
   intro j S0 T0 G' hm hj hl0 hst hso sp
   have hlen2:=hst.length
   rw [List.length_append] at hlen2
   refine hR _ _ _ _ _ _ ?_
   rw [aH,aa,decide_eq_true (by omega),aX]
   cases T0 with
   | nil=>
    exfalso
    rw [List.length_nil] at hlen2
    omega
   | cons p T1=>
    have hmem:∀ q,q ∈ S0 ++ p :: T1 -> q.ok:=fun q hq=>hok q (by
     have:=hst.mem.1 hq
     simp [this])
    have hpo:=hmem p (by simp)
    intro R2 hR2
    have inner:∀ (n:Nat) (U V:List ba) (G':ah),U.length = n -> U ++ V = S0 -> (∀ q ∈ V,p.id < q.id) -> Sp F0 G0 (bj 35 v ((X ++ (U ++ p :: V ++ T1) ++ Y).map ba.av) :: ps) G' ->
      R2 [v,.int .i64 (X.length:Int),.int .i64 ((X.length + S.length:Nat):Int),tu,.int .i64 ((X.length + j:Nat):Int),.int .i64 ((X.length + U.length:Nat):Int)] G':=by
     intro n
     induction n with
     | zero=>
      intro U V G' hU hUV hV sp
      have:U = []:=List.length_eq_zero_iff.1 hU
      subst this
      refine hR2 _ _ _ _ _ _ _ ?_
      intro J40
      rw [de,aa,decide_eq_false (by simp),aM]
      simp -zeta only [J40,aM]
      rw [bf,i64_in (by omega) (by omega),aa]
      have hVS:V = S0:=by simpa using hUV
      refine ih (j + 1) (p :: V) T1 G' (by omega) (by omega) ?_ ?_ ?_ ?_
      ·rw [List.length_cons,hVS,hl0]; simp at hlen2; omega
      ·refine ga.trans ?_ hst
       have:=ga.append (ga.swap (a:=[p]) (b:=V) (fun x hx y hy=>by rw [List.mem_singleton.1 hx]; have:=hV y hy; omega)) (ga.refl T1)
       rw [hVS] at this ⊢
       simpa using this
      ·exact List.pairwise_cons.2 ⟨fun q hq=>by have:=hV q hq; omega,by rw [hVS]; exact hso⟩
      ·simpa using sp
     | succ n ihn=>
      intro U V G' hU hUV hV sp
      obtain ⟨W,u,rfl⟩:∃ W u,U = W ++ [u]:=⟨U.dropLast,U.getLast (by intro h; rw [h] at hU; simp at hU),(List.dropLast_concat_getLast _).symm⟩
      have huo:u.ok:=hmem u (by rw [<- hUV]; simp)
      have hWl:W.length = n:=by simpa using hU
      have hUl:(W ++ [u]).length = W.length + 1:=by simp
      have e0:X ++ (W ++ [u] ++ p :: V ++ T1) ++ Y = (X ++ W) ++ u :: p :: (V ++ T1 ++ Y):=by simp
      rw [e0] at sp
      have hsl:=(bj.own (i:=0) sp rfl).is
      have g1:((X ++ W) ++ u :: p :: (V ++ T1 ++ Y))[X.length + W.length]? = some u:=by
       have:=get_at (X ++ W) (p :: (V ++ T1 ++ Y)) u
       rwa [List.length_append] at this
      have g2:((X ++ W) ++ u :: p :: (V ++ T1 ++ Y))[X.length + W.length + 1]? = some p:=by
       rw [List.getElem?_append_right (by rw [List.length_append]; omega),List.length_append,Nat.add_sub_cancel_left]
       rfl
      rw [hUl]
      have hjw:W.length + 1 ≤ S.length:=by
       have:=congrArg List.length hUV
       simp at this
       omega
      refine hR2 _ _ _ _ _ _ _ ?_
      intro J40
      rw [de,aa,decide_eq_true (by omega),aX]
      obtain ⟨c1,e1,e2⟩:=kX (x:=((X.length + (W.length + 1):Nat):Int)) hsl (by omega) g2
      refine ae e1 ?_
      refine ae e2 ?_
      rw [bS,i64_in (by omega) (by omega),aa]
      obtain ⟨c2,e3,e4⟩:=kX (x:=((X.length + (W.length + 1):Nat):Int) - 1) hsl (by omega) g1
      refine ae e3 ?_
      refine ae e4 ?_
      refine u9 hpo huo fun G25 c25=>?_
      have s25:=sp.tmp c25
      rw [aH,aa,vc]
      by_cases hlt:p.id < u.id
      ·rw [decide_eq_true hlt]
       simp -zeta only [J40,aX]
       rw [bS,i64_in (by omega) (by omega),aa,aa]
       refine CT (A:=X ++ W) (B:=V ++ T1 ++ Y) huo hpo (by rw [List.length_append]; omega) (by rw [List.length_append]; omega) s25 fun G38 s38=>?_
       rw [aa]
       have e5:(X ++ W) ++ p :: u :: (V ++ T1 ++ Y) = X ++ (W ++ p :: (u :: V) ++ T1) ++ Y:=by simp
       rw [e5] at s38
       have:=ihn W (u :: V) G38 hWl (by rw [<- hUV]; simp) (fun q hq=>by
        rcases List.mem_cons.1 hq with rfl | hq
        ·exact hlt
        ·exact hV q hq) s38
       have e6:((X.length + (W.length + 1):Nat):Int) - 1 = ((X.length + W.length:Nat):Int):=by omega
       rw [e6]
       exact this
      ·rw [decide_eq_false hlt]
       simp -zeta only [J40,aM]
       rw [bf,i64_in (by omega) (by omega),aa]
       have e5:(X ++ W) ++ u :: p :: (V ++ T1 ++ Y) = X ++ ((W ++ [u] ++ p :: V) ++ T1) ++ Y:=by simp
       rw [e5] at s25
       have hs0:fJ (W ++ [u] ++ V):=by rw [hUV]; exact hso
       have hWu:∀ q ∈ W ++ [u],q.id ≤ u.id:=by
        intro q hq
        rcases List.mem_append.1 hq with hq | hq
        ·unfold fJ at hs0
         rw [List.append_assoc,List.pairwise_append] at hs0
         exact hs0.2.2 q hq u (by simp)
        ·rw [List.mem_singleton.1 hq]; exact Int.le_refl _
       refine ih (j + 1) (W ++ [u] ++ p :: V) T1 G25 (by omega) (by omega) ?_ ?_ ?_ s25
       ·have:=congrArg List.length hUV
        simp at this hlen2 ⊢
        omega
       ·refine ga.trans ?_ hst
        have:=ga.append (ga.refl (W ++ [u])) (ga.append (ga.swap (a:=[p]) (b:=V) (fun x hx y hy=>by rw [List.mem_singleton.1 hx]; have:=hV y hy; omega)) (ga.refl T1))
        rw [<- hUV]
        simpa using this
       ·unfold fJ at hs0 ⊢
        rw [List.pairwise_append] at hs0 ⊢
        refine ⟨hs0.1,List.pairwise_cons.2 ⟨fun q hq=>by have:=hV q hq; omega,hs0.2.1⟩,fun x hx y hy=>?_⟩
        rcases List.mem_cons.1 hy with rfl | hy
        ·have:=hWu x hx; omega
        ·exact hs0.2.2 x hx y hy
    have:=inner S0.length S0 [] G' rfl (by simp) (by simp) (by simpa using sp)
    have ej:((X.length + j:Nat):Int) = ((X.length + S0.length:Nat):Int):=by rw [hl0]; simp at hlen2; omega
    rw [ej] at this ⊢
    exact this
 have e1:((X.length:Int) + 1) = ((X.length + 1:Nat):Int):=by omega
 rw [e1]
 cases S with
 | nil=>exact loop 0 1 [] [] G rfl (by simp) (by simp) (ga.refl _) (by simp [fJ]) hs
 | cons p S=>exact loop S.length 1 [p] S G (by simp) (by simp) (by simp) (ga.refl _) (by simp [fJ]) (by simpa using hs)
end
end Go.Esc.M
