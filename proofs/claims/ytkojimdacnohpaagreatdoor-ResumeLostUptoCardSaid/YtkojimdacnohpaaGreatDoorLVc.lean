import Derived.Test.YtkojimdacnohpaaGreatDoorLSb
set_option linter.unusedSimpArgs false
set_option linter.unusedVariables false
set_option maxRecDepth 20000
namespace Go.Esc.M
open Go Go.Esc
def plA (p:Nat):List ag:=(List.range 48).map fun i=>.int .i64 ((nN p i:Nat):Int)
theorem po (p:Nat):(plA p).length = 48:=by simp [plA]
theorem uI (p:Nat) {i:Nat} (hi:i < 48):(plA p)[i]? = some (.int .i64 ((nN p i:Nat):Int)):=by
 rw [plA,List.getElem?_map,List.getElem?_range hi]
 rfl
theorem qM (p:Nat):uni 1 (plA p) = true:=by simp [plA,uni,sz]
theorem Ap:∀ l:List Int,kT (l.map (ag.int .i64)) = true
 | []=>rfl
 | b :: l=>by simp [kT,okv,Ap l]
theorem BD (p:Nat):okv (.agg (plA p)) = true:=by
 have:plA p = ((List.range 48).map fun i=>((nN p i:Nat):Int)).map (ag.int .i64):=by simp [plA]
 rw [this,okv]
 exact Ap _
theorem pz (p:Nat):fa oq (.agg (plA p)) = true:=by
 have h1:szs (plA p) = 48:=by rw [gv (qM p),po]
 simp [fa,sz,h1,oq,ag.isAgg,j4.isAgg]
theorem D3 (p:Nat):sz (.agg (plA p)) = 48:=by rw [sz,gv (qM p),po]
theorem zm {p:Nat}:∀ (i:Nat),(∀ j,j < i -> nN p j = 0) -> 2 ^ i ∣ p
 | 0,_=>by simp
 | i + 1,h=>by
  obtain ⟨c,hc⟩:=zm i fun j hj=>h j (by omega)
  have hi:=h i (by omega)
  unfold nN at hi
  have e:p / 2 ^ i = c:=Nat.div_eq_of_eq_mul_right (Nat.pow_pos (by decide)) hc
  rw [e] at hi
  refine ⟨c / 2,?_⟩
  rw [Nat.pow_succ,Nat.mul_assoc,show 2 * (c / 2) = c by omega]
  exact hc
theorem Gx {p i:Nat} (hi:i < 48) (hz:∀ j,j < i -> nN p j = 0) (h1:nN p i = 1):level p = i:=by
 obtain ⟨c,hc⟩:=zm i hz
 unfold nN at h1
 have e:p / 2 ^ i = c:=Nat.div_eq_of_eq_mul_right (Nat.pow_pos (by decide)) hc
 rw [e] at h1
 refine Ip (m:=c / 2) hi ?_
 rw [show 2 * (c / 2) + 1 = c by omega]
 exact hc
theorem Gy {p:Nat} (hp:p < 2 ^ 48) (hz:∀ j,j < 48 -> nN p j = 0):level p = 48:=by
 have:=Nat.eq_zero_of_dvd_of_lt (zm 48 hz) hp
 rw [this,En]
theorem Dx (p i:Nat):p.testBit i = decide (nN p i = 1):=by rw [Nat.testBit_eq_decide_div_mod_eq]; rfl
theorem IQ {a b n:Nat} (ha:a < 2 ^ 48) (hb:b < 2 ^ 48) (h:∀ i,n ≤ i -> i < 48 -> nN a i = nN b i):a / 2 ^ n = b / 2 ^ n:=by
 apply Nat.eq_of_testBit_eq
 intro j
 rw [Nat.testBit_div_two_pow,Nat.testBit_div_two_pow]
 by_cases hj:j + n < 48
 ·rw [Dx,Dx,h (j + n) (by omega) hj]
 ·have h48:(2:Nat) ^ 48 ≤ 2 ^ (j + n):=Nat.pow_le_pow_right (by decide) (by omega)
  rw [Nat.testBit_lt_two_pow (by omega),Nat.testBit_lt_two_pow (by omega)]
theorem I2 {a b n i:Nat} (h:a / 2 ^ n = b / 2 ^ n) (hi:n ≤ i):nN a i = nN b i:=by
 obtain ⟨j,rfl⟩:∃ j,i = n + j:=⟨i - n,by omega⟩
 rw [FU,FU,h]
theorem KT (p i:Nat):nN p i = 0 \/ nN p i = 1:=by unfold nN; omega
section
variable {F0:List AId} {G0 G:ah} {ps:List LP} {Q:ag -> ah -> Prop}
theorem cw.use {n:Int} (hQ:Q (.bool (okN n)) G):al P cw.n [.int .i64 n] G Q:=by
 refine cw.sound ?_
 unfold cw.S
 unfold okN at hQ
 rw [gq,aa,aE]
 refine ⟨fun h=>?_,fun h=>by rwa [decide_eq_false h,Bool.false_and] at hQ⟩
 rw [decide_eq_true h,Bool.true_and] at hQ
 rw [jl,aa]
 exact hQ
theorem cj.use {n:Int} (hn:okN n = true) (hQ:∀ G',Ch [] G [] G' -> Q (.agg (plA (pl n))) G'):al P cj.n [.int .i64 n] G Q:=by
 refine cj.sound ?_
 unfold cj.S
 obtain ⟨hp1,hp2⟩:=wR hn
 obtain ⟨p,hp⟩:∃ p,p = pl n:=⟨_,rfl⟩
 rw [<- hp] at hp1 hp2 hQ
 obtain ⟨Z,hZ⟩:∃ Z,Z = List.replicate 48 (ag.int .i64 0):=⟨_,rfl⟩
 have hz:nS = .agg Z:=by rw [hZ]; rfl
 have hZl:Z.length = 48:=by rw [hZ]; simp
 have hDZ:(plA p).length = Z.length:=by rw [po,hZl]
 have huZ:uni 1 Z = true:=by rw [hZ]; exact mO rfl
 rw [hz]
 intro i1 f1
 have s1:=(Sp.nil G).row f1 (.agg Z)
 intro i3 f3
 have s3:=s1.row f3 (.agg Z)
 rw [bS,hp1,aa]
 have e48:(2:Nat) ^ 48 = 281474976710656:=by decide
 rw [i64_in (by omega) (by omega)]
 have hum:∀ j,uni 1 (mix (plA p) Z j) = true:=fun j=>kP (jc (qM p) _) (pg huZ _)
 intro R hR
 have loop:∀ (m j:Nat) (G':ah),48 - j = m -> j ≤ 48 -> Sp [] G [ar i3 (.agg (mix (plA p) Z j)),ar i1 (.agg Z)] G' -> R [.ptr i1 [] 0,.ptr i3 [] 0,.int .i64 ((p / 2 ^ j:Nat):Int),.int .i64 (j:Int)] G':=by
  intro m
  induction m with
  | zero=>
   intro j G' hm hj s
   have h48:j = Z.length:=by omega
   rw [h48,C5 hDZ] at s
   refine hR _ _ _ _ _ ?_
   rw [aH,aa,decide_eq_false (by omega),aM]
   refine ae (cJ j0 (ar.own (i:=0) s rfl) (pz p)) ?_
   refine fK (il j0 (ar.own (i:=1) s rfl) (pz p) (by rw [D3,sz,gv huZ,hZl]) (BD p)) ?_
   have s':=Sp.setRow (j:=1) s rfl (.agg (plA p))
   refine ae (cJ j0 (ar.own (i:=1) s' rfl) (pz p)) ?_
   exact hQ _ s'.ch
  | succ m ih=>
   intro j G' hm hj s
   have hjZ:j < Z.length:=by omega
   have hle:p / 2 ^ j ≤ p:=Nat.div_le_self _ _
   refine hR _ _ _ _ _ ?_
   rw [aH,aa,decide_eq_true (by omega),aX]
   refine ae (KJ (p / 2 ^ j) 2 (by decide) rfl) ?_
   refine ae (pa (j:=j) j0 rfl hO rfl (by omega)) ?_
   have hold:(mix (plA p) Z j)[j]? = some (.int .i64 0):=by
    rw [Fx hDZ hjZ]
    congr 1
    simp only [hZ,List.getElem_replicate]
   refine fK (I7 (s:=1) (c:=.int .i64 ((p / 2 ^ j % 2:Nat):Int)) hO (ar.own (i:=0) s rfl) (hum j) hold rfl rfl rfl) ?_
   have hset:(mix (plA p) Z j).set j (.int .i64 ((p / 2 ^ j % 2:Nat):Int)) = mix (plA p) Z (j + 1):=by
    have:=Fw hDZ hjZ
    have e:(plA p)[j]'(by rw [po]; omega) = .int .i64 ((p / 2 ^ j % 2:Nat):Int):=by
     have:=uI p (i:=j) (by omega)
     rw [List.getElem?_eq_getElem (by rw [po]; omega)] at this
     injection this
    rwa [e] at this
   rw [hset]
   have s':=Sp.setRow (j:=0) s rfl (.agg (mix (plA p) Z (j + 1)))
   have hq:aw T .quo ai (.int .i64 ((p / 2 ^ j:Nat):Int)) (.int .i64 2) = some (.int .i64 ((p / 2 ^ (j + 1):Nat):Int)):=by
    rw [yh _ _ _ _ _ (by decide)]
    have h2:(((p / 2 ^ j:Nat):Int).tdiv 2) = ((p / 2 ^ j / 2:Nat):Int):=yp _ 2
    have h3:p / 2 ^ (j + 1) = p / 2 ^ j / 2:=by rw [Nat.pow_succ,Nat.div_div_eq_div_mul]
    obtain ⟨q,hq⟩:∃ q,q = p / 2 ^ j:=⟨_,rfl⟩
    rw [h2,h3]
    rw [<- hq] at hle ⊢
    rw [i64_in (by omega) (by omega)]
   refine ae hq ?_
   rw [bf,aa,i64_in (by omega) (by omega)]
   exact ih (j + 1) _ (by omega) (by omega) s'
 have:=loop 48 0 _ rfl (by omega) (by rw [C4]; exact s3)
 simpa using this
theorem dd.use {p:Nat} (hp:p < 2 ^ 48) (hQ:∀ G',Ch [] G [] G' -> Q (.int .i64 ((level p:Nat):Int)) G'):al P dd.n [.agg (plA p)] G Q:=by
 refine dd.sound ?_
 unfold dd.S
 intro i1 f1
 have s1:=(Sp.nil G).row f1 (.agg (plA p))
 intro R hR
 have loop:∀ (m j:Nat),48 - j = m -> j ≤ 48 -> (∀ q,q < j -> nN p q = 0) -> R [.ptr i1 [] 0,.int .i64 (j:Int)] (G.upd i1 (.own (.agg (plA p)))):=by
  intro m
  induction m with
  | zero=>
   intro j hm hj hz
   have h48:j = 48:=by omega
   subst h48
   refine hR _ _ _ ?_
   rw [aH,aa,decide_eq_false (by omega),aM]
   have:=hQ _ s1.ch
   rwa [Gy hp hz] at this
  | succ m ih=>
   intro j hm hj hz
   refine hR _ _ _ ?_
   rw [aH,aa,decide_eq_true (by omega),aX]
   refine ae (pa (j:=j) j0 rfl hO rfl (by omega)) ?_
   refine ae (vg (s:=1) hO (ar.own (i:=0) s1 rfl) (qM p) (uI p (by omega)) rfl) ?_
   rw [bC,aa,aE]
   refine ⟨fun h1=>?_,fun h1=>?_⟩
   ·have:=hQ _ s1.ch
    rwa [Gx (by omega) hz (by omega)] at this
   ·rw [bf,aa,i64_in (by omega) (by omega)]
    refine ih (j + 1) (by omega) (by omega) fun q hq=>?_
    by_cases hqj:q = j
    ·subst hqj
     rcases KT p q with h | h
     ·exact h
     ·omega
    ·exact hz q (by omega)
 exact loop 48 0 rfl (by omega) (fun q hq=>by omega)
theorem bW.use {h:List UInt8} (hl:h.length = 32) (hQ:∀ G',Ch [] G [] G' -> Q (.agg ((sha h).map u8v)) G'):al P bW.n [.agg (h.map u8v)] G Q:=by
 refine bW.sound ?_
 unfold bW.S
 rw [kM]
 intro i1 f1
 have s1:=(Sp.nil G).row f1 (.agg (h.map u8v))
 intro i3 f3
 have s3:=s1.row f3 (.agg ((List.replicate 32 (0:UInt8)).map u8v))
 refine ae oh ?_
 refine ae (jZ fu rfl dz rfl fZ rfl (qV (ar.own (i:=1) s3 rfl) hl)) ?_
 refine B4 (T:=T) (ts:=im) (e:=bH) (si:=jm) (ie:=iO) (l:=[h].map .str) lD rfl fZ rfl rfl rfl rfl (by simp [sz,iO]) (by decide) s3 fun v7 G8 s8=>?_
 refine eI.use (xs:=[h]) (bj.own (i:=0) s8 rfl).is (by simp) (by simp; omega) fun G10 c10=>?_
 have s10:=s8.tmp c10
 have e1:[h].flatten = h:=by simp
 rw [e1]
 refine fK (gg (hs':=sha h) (by simp) (gI _) (ar.own (i:=1) s10 rfl)) ?_
 have s11:=Sp.setRow (j:=1) s10 rfl (.agg ((sha h).map u8v))
 refine ae (bE (gI _) (ar.own (i:=1) s11 rfl)) ?_
 exact hQ _ s11.ch
set_option maxHeartbeats 1000000 in
theorem dL.use {h:List UInt8} {p k:Nat} (hl:h.length = 32) (hk:k ≤ 48) (hQ:∀ G',Ch [] G [] G' -> Q (.agg ((kf p k h).map u8v)) G'):al P dL.n [.agg (h.map u8v),.agg (plA p),.int .i64 (k:Int)] G Q:=by
 refine dL.sound ?_
 unfold dL.S
 rw [kM]
 intro i1 f1
 have s1:=(Sp.nil G).row f1 (.agg (h.map u8v))
 intro i3 f3
 have s3:=s1.row f3 (.agg (plA p))
 intro i5 f5
 have s5:=s3.row f5 (.agg ((List.replicate 32 (0:UInt8)).map u8v))
 rw [bS,i64_in (by omega) (by omega),aa]
 intro R hR
 have hD:=kK (pl:=p) k hl
 have loop:∀ (r:Nat) (c:List UInt8) (G':ah),r ≤ k -> c.length = 32 -> kf p r c = kf p k h -> Sp [] G [ar i5 (.agg ((List.replicate 32 (0:UInt8)).map u8v)),ar i3 (.agg (plA p)),ar i1 (.agg (c.map u8v))] G' -> R [.ptr i1 [] 0,.ptr i3 [] 0,.ptr i5 [] 0,.int .i64 ((r:Int) - 1)] G':=by
  intro r
  induction r with
  | zero=>
   intro c G' hr hc hd s
   have hcD:c = kf p k h:=hd
   subst hcD
   refine hR _ _ _ _ _ ?_
   rw [gq,aa,decide_eq_false (by omega),aM]
   refine ae (bE hD (ar.own (i:=2) s rfl)) ?_
   refine fK (gg (hs':=kf p k h) (by simp) hD (ar.own (i:=0) s rfl)) ?_
   have s':=Sp.setRow (j:=0) s rfl (.agg ((kf p k h).map u8v))
   refine ae (bE hD (ar.own (i:=0) s' rfl)) ?_
   exact hQ _ s'.ch
  | succ r ih=>
   intro c G' hr hc hd s
   refine hR _ _ _ _ _ ?_
   have er:((r + 1:Nat):Int) - 1 = (r:Int):=by omega
   rw [er,gq,aa,decide_eq_true (by omega),aX]
   refine ae (pa (j:=r) j0 rfl hO rfl (by omega)) ?_
   refine ae (vg (s:=1) hO (ar.own (i:=1) s rfl) (qM p) (uI p (by omega)) rfl) ?_
   rw [bC,aa,aE]
   refine ⟨fun h1=>?_,fun h1=>?_⟩
   ·have hb1:nN p r = 1:=by omega
    have hstep:pM p r c = sha (qz c r):=by unfold pM; rw [if_pos hb1]
    refine ae (KK r 8 (by decide) (by omega) rfl) ?_
    refine ae (KK r 8 (by decide) (by omega) rfl) ?_
    refine ae (mD (j:=r / 8) (by omega)) ?_
    refine ae (o4 (hs:=c) (j:=r / 8) (by omega) (ar.own (i:=2) s rfl)) ?_
    refine ae (KJ r 8 (by decide) rfl) ?_
    refine ae (v:=.int .u64 ((r % 8:Nat):Int)) (by rw [iF hO B7 rfl,u64_in (by omega) (by omega)]) ?_
    refine ae (K9 (by omega)) ?_
    refine ae (u8_xor _ _) ?_
    refine ae (mD (j:=r / 8) (by omega)) ?_
    refine fK (tM (hs:=c) (j:=r / 8) (by omega) (ar.own (i:=2) s rfl)) ?_
    rw [FK hc (by omega)]
    have s':=Sp.setRow (j:=2) s rfl (.agg ((qz c r).map u8v))
    have hfl:=wY hc r
    refine ae (bE hfl (ar.own (i:=2) s' rfl)) ?_
    refine bW.use hfl fun G29 c29=>?_
    have s29:=s'.tmp c29
    refine fK (gg (hs':=sha (qz c r)) hfl (gI _) (ar.own (i:=2) s29 rfl)) ?_
    have s30:=Sp.setRow (j:=2) s29 rfl (.agg ((sha (qz c r)).map u8v))
    rw [bS,aa,i64_in (by omega) (by omega)]
    refine ih _ _ (by omega) (gI _) ?_ s30
    rw [<- hstep]
    exact hd
   ·have hb0:¬ nN p r = 1:=by omega
    have hstep:pM p r c = c:=by unfold pM; rw [if_neg hb0]
    rw [bS,aa,i64_in (by omega) (by omega)]
    refine ih _ _ (by omega) hc ?_ s
    have hd':kf p r (pM p r c) = kf p k h:=hd
    rwa [hstep] at hd'
 exact loop k h _ (Nat.le_refl _) hl rfl s5
theorem bJ.use {s:List UInt8} {n:Int} (hl:s.length = 32) (hQ:∀ G',Ch [] G [] G' -> Q (wM (fH s n)) G'):al P bJ.n [.agg (s.map u8v),.int .i64 n] G Q:=by
 refine bJ.sound ?_
 unfold bJ.S
 rw [kM]
 intro i1 f1
 have s1:=(Sp.nil G).row f1 (.agg (s.map u8v))
 intro i3 f3
 have s3:=s1.row f3 (.agg (jD.map u8v))
 refine cw.use ?_
 unfold fH at hQ
 rw [fN,aa]
 cases hn:okN n with
 | false=>
  rw [hn] at hQ
  rw [Bool.not_false,aX]
  refine ae m9 ?_
  refine fK (gg (hs':=jD) rfl rfl (ar.own (i:=0) s3 rfl)) ?_
  have s9:=Sp.setRow (j:=0) s3 rfl (.agg (jD.map u8v))
  refine ae (bE rfl (ar.own (i:=0) s9 rfl)) ?_
  exact hQ _ s9.ch
 | true=>
  rw [hn] at hQ
  rw [Bool.not_true,aM]
  refine ae (bE hl (ar.own (i:=1) s3 rfl)) ?_
  refine cj.use hn fun G13 c13=>?_
  have s13:=s3.tmp c13
  refine ⟨⟨bE hl (ar.own (i:=1) s13 rfl),trivial⟩,?_⟩
  refine dL.use (k:=48) hl (by omega) fun G15 c15=>?_
  have s15:=s13.tmp c15
  have hD:=kK (pl:=pl n) 48 hl
  refine fK (gg (hs':=kf (pl n) 48 s) rfl hD (ar.own (i:=0) s15 rfl)) ?_
  have s16:=Sp.setRow (j:=0) s15 rfl (.agg ((kf (pl n) 48 s).map u8v))
  refine ae (bE hD (ar.own (i:=0) s16 rfl)) ?_
  exact hQ _ s16.ch
theorem dY.use {n:Int} (hQ:∀ G',Ch [] G [] G' -> Q (Fe (oI n)) G'):al P dY.n [.int .i64 n] G Q:=by
 refine dY.sound ?_
 unfold dY.S
 refine cw.use ?_
 unfold oI at hQ
 rw [fN,aa]
 cases hn:okN n with
 | false=>
  rw [hn] at hQ
  exact hQ _ (Ch.refl _ _)
 | true=>
  rw [hn] at hQ
  rw [Bool.not_true,aM]
  refine cj.use hn fun G5 c5=>?_
  refine dd.use (wR hn).2 fun G7 c7=>?_
  exact hQ _ (((Sp.nil G).tmp c5).tmp c7).ch
set_option maxHeartbeats 1000000 in
theorem du.use {s:List UInt8} {a b:Int} (hl:s.length = 32) (hQ:∀ G',Ch [] G [] G' -> Q (wM (jJ s a b)) G'):al P du.n [.agg (s.map u8v),.int .i64 a,.int .i64 b] G Q:=by
 refine du.sound ?_
 unfold du.S
 rw [kM]
 intro i1 f1
 have s1:=(Sp.nil G).row f1 (.agg (s.map u8v))
 intro i3 f3
 have s3:=s1.row f3 (.agg ((List.replicate 32 (0:UInt8)).map u8v))
 revert s3
 generalize ah.upd _ i3 _ = G4
 intro s3
 have s3:Sp [] G [ar i3 (.agg (jD.map u8v)),ar i1 (.agg (s.map u8v))] G4:=s3
 intro J53
 have none:∀ (e:Int) {ps:List LP} {q:Nat} {G':ah},Sp [] G ps G' -> ps[q]? = some (ar i3 (.agg (jD.map u8v))) -> jJ s a b = (jD,e) -> (wv (bk T aj []) fun v15=>wg (ax T G' aj (.ptr i3 [] 0) v15) fun G16=>wv (af T G16 aj (.ptr i3 [] 0)) fun v17=>Q (.tuple [v17,.int .i64 e]) G16):=by
  intro e ps q G' s9 hq he
  refine ae m9 ?_
  refine fK (gg (hs':=jD) rfl rfl (ar.own s9 hq)) ?_
  have s10:=Sp.setRow s9 hq (.agg (jD.map u8v))
  refine ae (bE rfl (ah.fc _ _ _)) ?_
  have:=hQ _ s10.ch
  rwa [he] at this
 have bad:okN a = false \/ okN b = false -> J53 (.bool true) G4:=by
  intro h
  simp -zeta only [J53,aX]
  refine none 90 (q:=0) s3 rfl ?_
  unfold jJ
  rcases h with h | h <;> rw [h] <;> simp
 have kA:okN a = true -> okN b = true -> J53 (.bool false) G4:=by
  intro ha hb
  simp -zeta only [J53,aM]
  have hle:=rZ (pl a)
  have hpa:=(wR ha).2
  have hpb:=(wR hb).2
  refine cj.use ha fun G17 c17=>?_
  have s17:=s3.tmp c17
  refine jQ s17 j0 (pz _) (by rw [D3]; rfl) (BD _) fun i18 G20 s20=>?_
  refine cj.use hb fun G22 c22=>?_
  have s22:=s20.tmp c22
  refine jQ s22 j0 (pz _) (by rw [D3]; rfl) (BD _) fun i23 G25 s25=>?_
  have s25:Sp [] G [ar i23 (.agg (plA (pl b))),ar i18 (.agg (plA (pl a))),ar i3 (.agg (jD.map u8v)),ar i1 (.agg (s.map u8v))] G25:=s25
  refine ae (cJ j0 (ar.own (i:=1) s25 rfl) (pz _)) ?_
  refine dd.use hpa fun G28 c28=>?_
  have s28:=s25.tmp c28
  intro R hR
  have loop:∀ (m j:Nat),48 - j = m -> j ≤ 48 -> level (pl a) ≤ j -> (∀ q,level (pl a) ≤ q -> q < j -> nN (pl a) q = nN (pl b) q) -> R [.ptr i1 [] 0,.ptr i3 [] 0,.ptr i18 [] 0,.ptr i23 [] 0,.int .i64 ((level (pl a):Nat):Int),.int .i64 (j:Int)] G28:=by
   intro m
   induction m with
   | zero=>
    intro j hm hj hlj hz
    have hd:jJ s a b = (kf (pl b) (level (pl a)) s,0):=by
     unfold jJ
     rw [ha,hb,if_pos (IQ hpa hpb fun i h1 h2=>hz i h1 (by omega))]
     rfl
    refine hR _ _ _ _ _ _ _ ?_
    rw [aH,aa,decide_eq_false (by omega),aM]
    refine ae (bE hl (ar.own (i:=3) s28 rfl)) ?_
    refine ae (cJ j0 (ar.own (i:=0) s28 rfl) (pz _)) ?_
    refine dL.use hl hle fun G50 c50=>?_
    have s50:=s28.tmp c50
    have hD:=kK (pl:=pl b) (level (pl a)) hl
    refine fK (gg (hs':=kf (pl b) (level (pl a)) s) rfl hD (ar.own (i:=2) s50 rfl)) ?_
    have s51:=Sp.setRow (j:=2) s50 rfl (.agg ((kf (pl b) (level (pl a)) s).map u8v))
    refine ae (bE hD (ar.own (i:=2) s51 rfl)) ?_
    have:=hQ _ s51.ch
    rwa [hd] at this
   | succ m ih=>
    intro j hm hj hlj hz
    refine hR _ _ _ _ _ _ _ ?_
    rw [aH,aa,decide_eq_true (by omega),aX]
    refine ae (pa (j:=j) j0 rfl hO rfl (by omega)) ?_
    refine ae (vg (s:=1) hO (ar.own (i:=1) s28 rfl) (qM _) (uI _ (by omega)) rfl) ?_
    refine ae (pa (j:=j) j0 rfl hO rfl (by omega)) ?_
    refine ae (vg (s:=1) hO (ar.own (i:=0) s28 rfl) (qM _) (uI _ (by omega)) rfl) ?_
    rw [dy,aa,fg]
    refine ⟨fun hne=>?_,fun heq=>?_⟩
    ·refine none 5 (q:=2) s28 rfl ?_
     unfold jJ
     rw [ha,hb,if_neg (fun h=>hne (by rw [I2 h hlj]))]
     rfl
    ·rw [bf,aa,i64_in (by omega) (by omega)]
     refine ih (j + 1) (by omega) (by omega) (by omega) fun q h1 h2=>?_
     by_cases hqj:q = j
     ·subst hqj; omega
     ·exact hz q h1 (by omega)
  exact loop (48 - level (pl a)) (level (pl a)) rfl hle (Nat.le_refl _) (fun q h1 h2=>by omega)
 refine cw.use ?_
 rw [fN,aa]
 cases ha:okN a with
 | false=>
  rw [Bool.not_false,aX]
  exact bad (.inl ha)
 | true=>
  rw [Bool.not_true,aM]
  refine cw.use ?_
  rw [fN,aa]
  cases hb:okN b with
  | false=>exact bad (.inr hb)
  | true=>exact kA ha hb
end
end Go.Esc.M
set_option linter.unusedSimpArgs false
set_option linter.unusedVariables false
set_option maxRecDepth 20000
namespace Go.Esc.M
open Go Go.Esc
theorem JU:(kf (2 ^ 48 - 1) 48 jD).take 4 = [2,164,12,133]:=by decide +kernel
end Go.Esc.M
set_option linter.unusedSimpArgs false
set_option linter.unusedVariables false
set_option maxRecDepth 20000
namespace Go.Esc.M
open Go Go.Esc
theorem ub {s:List UInt8} (h:s.length = 32) (a b:Int):(jJ s a b).1.length = 32:=by
 unfold jJ
 cases okN a && okN b
 ·rfl
 ·rw [cond_true]
  split
  ·exact kK _ h
  ·rfl
section
variable {F0:List AId} {G0 G:ah} {ps:List LP} {Q:ag -> ah -> Prop}
theorem Lf {h:List UInt8} {K:AId -> ah -> Prop} (s:Sp F0 G0 ps G) (hl:h.length = 32) (hK:∀ i G',Sp F0 G0 (ar i (.agg (h.map u8v)) :: ps) G' -> K i G') :
  br G (.own cI) fun i G2=>wg (ax T G2 aj (.ptr i [] 0) (.agg (h.map u8v))) fun G3=>K i G3:=jQ s cd (Ey hl) (LC hl) (Le h) hK
end
end Go.Esc.M
set_option linter.unusedSimpArgs false
set_option linter.unusedVariables false
set_option maxRecDepth 20000
namespace Go.Esc.M
open Go Go.Esc
theorem Io {a:Int} (ha:okN a = true):oI a = (((level (pl a):Nat):Int),0):=by
 unfold oI
 rw [ha]
 rfl
section
variable {F0:List AId} {G0 G:ah} {ps:List LP} {Q:ag -> ah -> Prop}
end
end Go.Esc.M
set_option linter.unusedSimpArgs false
set_option linter.unusedVariables false
set_option maxRecDepth 20000
namespace Go.Esc
open Go Go.RowKit
section
variable {T:Tbl} {t e:TypeId} {i ie:TI} (ht:T t = some i) (hd:i.desc = .slice e) (he:T e = some ie)
end
end Go.Esc
namespace Go.Esc.M
open Go Go.Esc
structure cB where
 index:Int
 secret:List UInt8
 full:Bool
 deriving DecidableEq
def cB.cs (s:cB):List ag:=[.int .i64 s.index,.agg (s.secret.map u8v),.bool s.full]
def cB.av (s:cB):ag:=.agg s.cs
def cB.ok (s:cB):Prop:=s.secret.length = 32
def pK:cB:=⟨0,jD,false⟩
theorem oe:pK.ok:=rfl
theorem J8:pe = pK.av:=rfl
theorem cB.sz {s:cB} (h:s.ok):Esc.sz s.av = 34:=by
 have h1:szs (s.secret.map u8v) = 32:=by rw [gv (n:=1) (ji _)]; simp [show s.secret.length = 32 from h]
 simp [cB.av,cB.cs,Esc.sz,szs,h1]
theorem cB.fits {s:cB} (h:s.ok):fa kI s.av = true:=by
 have h1:=cB.sz h
 have h2:s.av.isAgg = true:=rfl
 simp [fa,h1,h2,kI,j4.isAgg]
theorem cB.okv (s:cB):Esc.okv s.av = true:=by simp [cB.av,cB.cs,Esc.okv,kT,jx]
theorem z7 {l:List cB} (h:∀ s ∈ l,s.ok):Esc.uni 34 (l.map cB.av) = true:=by
 simp only [Esc.uni,List.all_map,List.all_eq_true]
 intro s hs
 simp [cB.sz (h s hs)]
theorem tV:∀ l:List cB,kT (l.map cB.av) = true
 | []=>rfl
 | s :: l=>by simp [kT,cB.okv,tV l]
theorem sQ (l:List cB) {j:Nat} {s:cB} (h:l[j]? = some s):(l.map cB.av)[j]? = some s.av:=by rw [List.getElem?_map,h]; rfl
section
variable {F0:List AId} {G0 G:ah} {ps:List LP} {v:ag} {l:List cB} {j:Nat} {s:cB} {x:Int}
theorem Jy (h:fV 34 G v (l.map cB.av)) (hx:x = (j:Int)) (hj:l[j]? = some s):∃ a,aL T bu v (.int .i64 x) = some a /\ af T G ff a = some s.av:=by
 subst hx
 exact h.at_ (k:=.i64) iL rfl ky (sQ l hj) rfl
theorem Ag (h:fV 34 G v (l.map cB.av)) (hx:x = (j:Int)) (hj:l[j]? = some s) (ho:s.ok):∃ a b,aL T bu v (.int .i64 x) = some a /\ bx T ff a 2 = some b /\ af T G ey b = some (.bool s.full):=by
 subst hx
 have h1:szs (s.secret.map u8v) = 32:=by rw [gv (n:=1) (ji _)]; simp [show s.secret.length = 32 from ho]
 exact fV.fld (k:=.i64) (cs:=s.cs) iL rfl ky (fs:=[(ai,0),(aj,1),(ey,33)]) (f:=2) (o:=33) rfl rfl kC (by decide) h (sQ l hj) (by simp [cB.cs,szs,Esc.sz,h1]) rfl rfl
theorem Ea (h:fV 34 G v (l.map cB.av)) (hx:x = (j:Int)) (hj:l[j]? = some s):∃ a b,aL T bu v (.int .i64 x) = some a /\ bx T ff a 0 = some b /\ af T G ai b = some (.int .i64 s.index):=by
 subst hx
 exact fV.fld (k:=.i64) (cs:=s.cs) iL rfl ky (fs:=[(ai,0),(aj,1),(ey,33)]) (f:=0) (o:=0) rfl rfl cA (by decide) h (sQ l hj) rfl rfl rfl
theorem CL (h:fV 34 G v (l.map cB.av)) (hx:x = (j:Int)) (hj:l[j]? = some s) (ho:s.ok):∃ a b,aL T bu v (.int .i64 x) = some a /\ bx T ff a 1 = some b /\ af T G aj b = some (.agg (s.secret.map u8v)):=by
 subst hx
 exact fV.fld (k:=.i64) (cs:=s.cs) iL rfl ky (fs:=[(ai,0),(aj,1),(ey,33)]) (f:=1) (o:=1) rfl rfl cd (by decide) h (sQ l hj) (by simp [cB.cs,szs,Esc.sz]) rfl (Ey ho)
theorem sF (h:fV 34 G v (l.map cB.av)):gF T G bu v = some (.int .i64 (l.length:Nat)):=by
 rw [h.len (i:=jN) iL rfl,List.length_map]
theorem qj {i:Nat} {id:AId} (hs:Sp F0 G0 ps G) (hi:ps[i]? = some (ar id s.av)) (ho:s.ok) :
  af T G ai (.ptr id [0] 0) = some (.int .i64 s.index) /\ af T G aj (.ptr id [1] 1) = some (.agg (s.secret.map u8v)) /\ af T G ey (.ptr id [2] 33) = some (.bool s.full) /\ af T G ff (.ptr id [] 0) = some s.av:=by
 have hg:=ar.own hs hi
 have h1:szs (s.secret.map u8v) = 32:=by rw [gv (n:=1) (ji _)]; simp [show s.secret.length = 32 from ho]
 refine ⟨dQ (c:=.int .i64 s.index) hg rfl rfl rfl cA rfl,dQ (c:=.agg (s.secret.map u8v)) hg rfl rfl rfl cd (Ey ho),dQ (cs:=s.cs) (c:=.bool s.full) hg rfl (by simp [cB.cs,szs,Esc.sz,h1]) rfl kC rfl,cJ ky hg (cB.fits ho)⟩
theorem tP {i:Nat} {id:AId} {s':cB} (hs:Sp F0 G0 ps G) (hi:ps[i]? = some (ar id s.av)) (h:s.ok) (h':s'.ok) {K:ah -> Prop} (hK:∀ G',Sp F0 G0 (ps.set i (ar id s'.av)) G' -> K G'):wg (ax T G ff (.ptr id [] 0) s'.av) K:=by
 refine fK (il ky (ar.own hs hi) (cB.fits h') (by rw [cB.sz h,cB.sz h']) (cB.okv _)) ?_
 exact hK _ (Sp.setRow hs hi _)
theorem LI {K:AId -> ah -> Prop} (hs:Sp F0 G0 ps G) (ho:s.ok) (hK:∀ i G',Sp F0 G0 (ar i s.av :: ps) G' -> K i G') :
  br G (.own pe) fun i G2=>wg (ax T G2 ff (.ptr i [] 0) s.av) fun G3=>K i G3:=jQ hs ky (cB.fits ho) (by rw [J8,cB.sz oe,cB.sz ho]) (cB.okv s) hK
theorem AA {i:Nat} {K:ag -> ah -> Prop} (hs:Sp F0 G0 ps G) (hi:ps[i]? = some (bj 34 v (l.map cB.av))) (ho:s.ok) (hl:(l.length + 1) * 48 ≤ 140737488355328) (hK:∀ v' G',Sp F0 G0 (ps.set i (bj 34 v' ((l ++ [s]).map cB.av))) G' -> K v' G') :
  bh T bu 1 [(0,s.av)] G fun w G'=>cc T G' bu bu v w K:=by
 refine uY iL rfl ky (cB.sz oe) (by decide) hs hi (cB.sz ho) (cB.okv s) (by decide) (by rw [List.length_map]; exact hl) fun s' G' h=>hK s' G' ?_
 rw [List.map_append]
 exact h
end
theorem EL {n:Int} {h:List UInt8} (hl:h.length = 32) (b:Bool):bk T ff [(0,.int .i64 n),(1,.agg (h.map u8v)),(2,.bool b)] = some (cB.av ⟨n,h,b⟩):=by
 refine (jK (zs:=pK.cs) ky rfl rfl rfl (n9 (by decide +kernel)) ?_).trans rfl
 intro p hp
 simp only [List.mem_cons,List.not_mem_nil,or_false] at hp
 have e1:szs (h.map u8v) = 32:=by rw [gv (n:=1) (ji _)]; simp [hl]
 have e2:szs (jD.map u8v) = 32:=by rw [gv (n:=1) (ji _)]; rfl
 rcases hp with rfl | rfl | rfl
 ·rfl
 ·simp [pK,cB.cs,Esc.sz,e1,e2]
 ·simp [pK,cB.cs,Esc.sz]
theorem EK:bk T ff [] = some pK.av:=rfl
def atS (l:List cB) (j:Nat):cB:=if (l.getD j pK).full = true then l.getD j pK else pK
def zy (secret:List UInt8) (n:Int) (s:cB):Bool:=s.full && !decide (jJ secret n s.index = (s.secret,0))
def yU (l:List cB) (n:Int) (secret:List UInt8):Bool:=(List.range (level (pl n))).all fun j=>!zy secret n (atS l j)
def Da (l:List cB) (n:Int) (secret:List UInt8):List cB:=(List.range 49).map fun j=>if j = level (pl n) then ⟨n,secret,true⟩ else atS l j
def uG (l:List cB) (n:Int) (secret:List UInt8):List cB × Int :=
 if 49 < l.length then ([],1) else if okN n = true then (if yU l n secret = true then (Da l n secret,0) else ([],100)) else ([],90)
def Ew (n:Int):List cB -> List UInt8 × Int
 | []=>(jD,5)
 | s :: l=>if s.full = true /\ (jJ s.secret s.index n).2 = 0 then ((jJ s.secret s.index n).1,0) else Ew n l
def GK (l:List cB) (n:Int):List UInt8 × Int:=if 49 < l.length then (jD,1) else if okN n = true then Ew n l else (jD,90)
theorem DB {l:List cB} {j:Nat} {s:cB} (h:l[j]? = some s):atS l j = if s.full = true then s else pK:=by
 unfold atS
 rw [List.getD_eq_getElem?_getD,h]
 rfl
theorem DC {l:List cB} {j:Nat} (h:l.length ≤ j):atS l j = pK:=by
 unfold atS
 rw [List.getD_eq_getElem?_getD,List.getElem?_eq_none h]
 rfl
theorem I5 {l:List cB} (h:∀ s ∈ l,s.ok) (j:Nat):(atS l j).ok:=by
 by_cases hj:j < l.length
 ·have hx:l[j]? = some l[j]:=List.getElem?_eq_getElem hj
  rw [DB hx]
  split
  ·exact h _ (List.mem_of_getElem? hx)
  ·exact oe
 ·rw [DC (by omega)]
  exact oe
theorem Iz {l:List cB} {n:Int} {secret:List UInt8} (h:∀ s ∈ l,s.ok) (hs:secret.length = 32):∀ s ∈ Da l n secret,s.ok:=by
 intro s hm
 unfold Da at hm
 obtain ⟨j,_,rfl⟩:=List.mem_map.1 hm
 split
 ·exact hs
 ·exact I5 h j
theorem JB {l:List cB} {n:Int} {secret:List UInt8} (h:∀ s ∈ l,s.ok) (hs:secret.length = 32):∀ s ∈ (uG l n secret).1,s.ok:=by
 unfold uG
 intro s hm
 split at hm
 ·simp at hm
 ·split at hm
  ·split at hm
   ·exact Iz h hs s hm
   ·simp at hm
  ·simp at hm
theorem GG (l:List cB) (n:Int) (secret:List UInt8):(Da l n secret).length = 49:=by simp [Da]
theorem yT {l:List cB} {n:Int} {secret:List UInt8}:yU l n secret = true ↔ ∀ j,j < level (pl n) -> zy secret n (atS l j) = false:=by
 unfold yU
 rw [List.all_eq_true]
 constructor
 ·intro h j hj
  have:=h j (List.mem_range.2 hj)
  simpa using this
 ·intro h j hj
  have:=h j (List.mem_range.1 hj)
  simp [this]
theorem HY (l:List cB) (n:Int) (secret:List UInt8):(uG l n secret).1.length ≤ 49:=by
 unfold uG
 split
 ·simp
 ·split
  ·split
   ·rw [GG]; omega
   ·simp
  ·simp
theorem Dh {n:Int}:∀ {l:List cB},(∀ s ∈ l,s.ok) -> (Ew n l).1.length = 32
 | [],_=>rfl
 | s :: l,h=>by
  unfold Ew
  split
  ·exact ub (h s (by simp)) _ _
  ·exact Dh fun x hx=>h x (by simp [hx])
theorem Dg {n:Int} {l:List cB} (h:∀ s ∈ l,s.ok):(GK l n).1.length = 32:=by
 unfold GK
 split
 ·rfl
 ·split
  ·exact Dh h
  ·rfl
end Go.Esc.M
set_option linter.unusedSimpArgs false
set_option linter.unusedVariables false
set_option maxRecDepth 20000
namespace Go.Esc.M
open Go Go.Esc
section
variable {F0:List AId} {G0 G:ah} {ps:List LP} {Q:ag -> ah -> Prop}
set_option maxHeartbeats 1000000 in
theorem iV.use {v:ag} {l:List cB} {n:Int} (hT:Tab G) (hl:fV 34 G v (l.map cB.av)) (hok:∀ s ∈ l,s.ok) (hlen:l.length * 48 ≤ 140737488351232)
  (hQ:∀ G',Ch [] G [] G' -> Q (wM (GK l n)) G'):al P iV.n [v,.int .i64 n] G Q:=by
 refine iV.sound ?_
 unfold iV.S
 rw [kM]
 intro i1 f1
 have s1:=(Sp.nil G).row f1 (.agg ((List.replicate 32 (0:UInt8)).map u8v))
 have z1:jD.length = 32:=rfl
 unfold GK at hQ
 have out:∀ (h h':List UInt8) (e:Int) (G':ah),h.length = 32 -> h'.length = 32 -> Sp [] G [ar i1 (.agg (h'.map u8v))] G' -> (∀ G',Ch [] G [] G' -> Q (wM (h,e)) G') ->
   wg (ax T G' aj (.ptr i1 [] 0) (.agg (h.map u8v))) fun G6=>wv (af T G6 aj (.ptr i1 [] 0)) fun v7=>Q (.tuple [v7,.int .i64 e]) G6:=by
  intro h h' e G' hh hh' sp hk
  refine fK (gg hh' hh (ar.own (i:=0) sp rfl)) ?_
  have s2:=Sp.setRow (j:=0) sp rfl (.agg (h.map u8v))
  refine ae (bE hh (ar.own (i:=0) s2 rfl)) ?_
  exact hk _ s2.ch
 refine ae (sF (hl.ch' s1.ch)) ?_
 rw [de,aa,aE]
 refine ⟨fun h=>?_,fun h=>?_⟩
 ·rw [if_pos (by omega)] at hQ
  refine ae m9 ?_
  exact out _ _ _ _ (by simp) (by simp) s1 hQ
 rw [if_neg (by omega)] at hQ
 intro J52
 have bad:okN n = false -> J52 (.bool true) (G.upd i1 (.own (.agg ((List.replicate 32 (0:UInt8)).map u8v)))):=by
  intro hn
  rw [hn,if_neg (by simp)] at hQ
  simp -zeta only [J52,aX]
  refine ae m9 ?_
  exact out _ _ _ _ (by simp) (by simp) s1 hQ
 have kA:okN n = true -> J52 (.bool false) (G.upd i1 (.own (.agg ((List.replicate 32 (0:UInt8)).map u8v)))):=by
  intro hn
  rw [hn,if_pos rfl] at hQ
  simp -zeta only [J52,aM]
  refine ae (sF (hl.ch' s1.ch)) ?_
  intro R hR
  have loop:∀ (m j:Nat) (G':ah),l.length - j = m -> j ≤ l.length -> Ew n l = Ew n (l.drop j) -> Sp [] G [ar i1 (.agg ((List.replicate 32 (0:UInt8)).map u8v))] G' ->
    R [v,.int .i64 n,.ptr i1 [] 0,.int .i64 (l.length:Int),.int .i64 (j:Int)] G':=by
   intro m
   induction m with
   | zero=>
    intro j G' hm hj he sp
    refine hR _ _ _ _ _ _ ?_
    rw [aH,aa,decide_eq_false (by omega),aM]
    rw [List.drop_eq_nil_of_le (by omega)] at he
    rw [he] at hQ
    refine ae m9 ?_
    exact out _ _ _ _ (by simp) (by simp) sp hQ
   | succ m ih=>
    intro j G' hm hj he sp
    obtain ⟨s,hsj⟩:∃ s,l[j]? = some s:=⟨_,List.getElem?_eq_getElem (by omega)⟩
    have hso:=hok s (List.mem_of_getElem? hsj)
    have hdr:l.drop j = s :: l.drop (j + 1):=by
     rw [List.drop_eq_getElem_cons (by omega)]
     rw [List.getElem?_eq_getElem (by omega)] at hsj
     injection hsj with hsj
     rw [hsj]
    rw [hdr,Ew] at he
    refine hR _ _ _ _ _ _ ?_
    rw [aH,aa,decide_eq_true (by omega),aX]
    obtain ⟨a,b,e1,e2,e3⟩:=Ag (hl.ch' sp.ch) rfl hsj hso
    refine ae e1 ?_
    refine ae e2 ?_
    refine ae e3 ?_
    rw [fN,aa]
    have ev:aw T .add au (.int .i64 (j:Int)) (.int .i64 1) = some (.int .i64 ((j + 1:Nat):Int)):=by
     rw [bf,i64_in (by omega) (by omega)]
     rfl
    cases hf:s.full with
    | false=>
     rw [hf,if_neg (by simp)] at he
     rw [Bool.not_false,aX]
     exact ae ev (ih (j + 1) G' (by omega) (by omega) he sp)
    | true=>
     rw [Bool.not_true,aM]
     obtain ⟨a,b,e1,e2,e3⟩:=CL (hl.ch' sp.ch) rfl hsj hso
     refine ae e1 ?_
     refine ae e2 ?_
     refine ae e3 ?_
     obtain ⟨a,b,e1,e2,e3⟩:=Ea (hl.ch' sp.ch) rfl hsj
     refine ae e1 ?_
     refine ae e2 ?_
     refine ae e3 ?_
     refine gM.use (hT.mono sp.ro) hso fun G35 c35=>?_
     have s35:=sp.tmp c35
     refine ae (hi0 _) ?_
     refine ae (hi1 _) ?_
     have hdl:=ub (s:=s.secret) hso s.index n
     refine Lf s35 hdl fun i38 G40 s40=>?_
     rw [bC,aa]
     by_cases hz:(jJ s.secret s.index n).2 = 0
     ·rw [if_pos ⟨hf,hz⟩] at he
      rw [he] at hQ
      rw [decide_eq_true hz,aX]
      refine ae (bE hdl (ar.own (i:=0) s40 rfl)) ?_
      exact out _ _ _ _ hdl (by simp) (s40.erase 0) hQ
     ·rw [if_neg (fun h=>hz h.2)] at he
      rw [decide_eq_false hz,aM]
      exact ae ev (ih (j + 1) G40 (by omega) (by omega) he (s40.erase 0))
  exact loop l.length 0 _ rfl (by omega) rfl s1
 have hiff:=BE (n:=n)
 rw [aH,aa,aE]
 refine ⟨fun h=>bad (Bool.eq_false_iff.2 fun hh=>?_),fun h=>?_⟩
 ·have:=hiff.1 hh
  omega
 ·rw [de,aa]
  by_cases h2:n > 281474976710655
  ·rw [decide_eq_true h2]
   exact bad (Bool.eq_false_iff.2 fun hh=>by have:=hiff.1 hh; omega)
  ·rw [decide_eq_false h2]
   exact kA (hiff.2 ⟨by omega,by omega⟩)
end
end Go.Esc.M
set_option linter.unusedSimpArgs false
set_option linter.unusedVariables false
set_option maxRecDepth 20000
namespace Go.Esc.M
open Go Go.Esc
section
variable {F0:List AId} {G0 G:ah} {ps:List LP} {Q:ag -> ah -> Prop}
def KX (k:Nat) (n:Int):Int:=if 49 < k then 1 else if okN n = true then 0 else 90
theorem dX.use {v:ag} {l:List cB} {n:Int} (hl:fV 34 G v (l.map cB.av)) (hQ:Q (.int .i64 (KX l.length n)) G):al P dX.n [v,.int .i64 n] G Q:=by
 refine dX.sound ?_
 unfold dX.S
 unfold KX at hQ
 have hiff:=BE (n:=n)
 refine ae (sF hl) ?_
 rw [de,aa,aE]
 refine ⟨fun h=>?_,fun h=>?_⟩
 ·rw [if_pos (by omega)] at hQ
  exact hQ
 rw [if_neg (by omega)] at hQ
 rw [aH,aa,aE]
 refine ⟨fun h=>?_,fun h=>?_⟩
 ·rw [if_neg (fun hh=>by have:=hiff.1 hh; omega)] at hQ
  exact hQ
 rw [de,aa,aE]
 refine ⟨fun h=>?_,fun h=>?_⟩
 ·rw [if_neg (fun hh=>by have:=hiff.1 hh; omega)] at hQ
  exact hQ
 ·rw [if_pos (hiff.2 ⟨by omega,by omega⟩)] at hQ
  exact hQ
theorem fM.use {v:ag} {l:List cB} {j:Nat} (hl:fV 34 G v (l.map cB.av)) (hok:∀ s ∈ l,s.ok) (hlen:l.length * 48 ≤ 140737488351232) (hQ:∀ G',Ch [] G [] G' -> Q (atS l j).av G'):al P fM.n [v,.int .i64 (j:Int)] G Q:=by
 refine fM.sound ?_
 unfold fM.S
 rw [J8]
 intro i1 f1
 have s1:=(Sp.nil G).row f1 pK.av
 intro J17
 have no:atS l j = pK -> J17 (.bool false) (G.upd i1 (.own pK.av)):=by
  intro h
  rw [h] at hQ
  simp -zeta only [J17,aM]
  refine ae EK ?_
  refine tP (i:=0) s1 rfl oe oe fun G' s=>?_
  refine ae (qj (i:=0) s rfl oe).2.2.2 ?_
  exact hQ _ s.ch
 refine ae (sF (hl.ch' s1.ch)) ?_
 rw [aH,aa,aE]
 refine ⟨fun h=>?_,fun h=>no (DC (by omega))⟩
 obtain ⟨s,hsj⟩:∃ s,l[j]? = some s:=⟨_,List.getElem?_eq_getElem (by omega)⟩
 have hso:=hok s (List.mem_of_getElem? hsj)
 have hat:=DB hsj
 obtain ⟨a,b,e1,e2,e3⟩:=Ag (hl.ch' s1.ch) rfl hsj hso
 refine ae e1 ?_
 refine ae e2 ?_
 refine ae e3 ?_
 cases hf:s.full with
 | false=>
  rw [hf,if_neg (by simp)] at hat
  exact no hat
 | true=>
  rw [hf,if_pos rfl] at hat
  rw [hat] at hQ
  simp -zeta only [J17,aX]
  obtain ⟨a,e1,e2⟩:=Jy (hl.ch' s1.ch) rfl hsj
  refine ae e1 ?_
  refine ae e2 ?_
  refine tP (i:=0) s1 rfl oe hso fun G' s'=>?_
  refine ae (qj (i:=0) s' rfl hso).2.2.2 ?_
  exact hQ _ s'.ch
def rA (l:List cB) (n:Int) (secret:List UInt8) (j:Nat):List cB:=(List.range j).map fun q=>if q = level (pl n) then ⟨n,secret,true⟩ else atS l q
theorem y6 (l:List cB) (n:Int) (secret:List UInt8) (j:Nat):rA l n secret (j + 1) = rA l n secret j ++ [if j = level (pl n) then ⟨n,secret,true⟩ else atS l j]:=by
 unfold rA
 rw [List.range_succ,List.map_append]
 rfl
theorem GH (l:List cB) (n:Int) (secret:List UInt8) (j:Nat):(rA l n secret j).length = j:=by simp [rA]
set_option maxHeartbeats 2000000 in
theorem eH.use {v:ag} {l:List cB} {n:Int} {secret:List UInt8} (hl:fV 34 G v (l.map cB.av)) (hok:∀ s ∈ l,s.ok) (hlen:l.length * 48 ≤ 140737488351232) (hs:secret.length = 32)
    (hQ:∀ w G',Sp [] G [bj 34 w ((uG l n secret).1.map cB.av)] G' -> Q (.tuple [w,.int .i64 (uG l n secret).2]) G'):al P eH.n [v,.int .i64 n,.agg (secret.map u8v)] G Q:=by
  refine eH.sound ?_
  unfold eH.S
  intro i1 f1
  have s1:=(Sp.nil G).row f1 (.agg (secret.map u8v))
  refine dX.use (hl.ch' s1.ch) ?_
  unfold uG at hQ
  unfold KX
  by_cases h49:49 < l.length
  · rw [if_pos h49] at hQ ⊢
    refine ae (v:=.bool true) rfl ?_
    rw [aX]
    exact hQ _ _ ((s1.nd 34).erase 1)
  rw [if_neg h49] at hQ ⊢
  cases hn:okN n with
  | false=>
    rw [hn,if_neg (by simp)] at hQ
    rw [if_neg (by simp)]
    refine ae (v:=.bool true) rfl ?_
    rw [aX]
    exact hQ _ _ ((s1.nd 34).erase 1)
  | true=>
    rw [hn,if_pos rfl] at hQ
    rw [if_pos rfl,nz0,aa,aM]
    refine dY.use fun G7 c7=>?_
    have s1:=s1.tmp c7
    refine ae (ii0 _) ?_
    refine ae (ii1 _) ?_
    rw [Io hn]
    have hlv:=rZ (pl n)
    intro R hR
    have loop:∀ (m j:Nat) (w:ag) (G':ah),49 - j = m -> j ≤ 49 -> (∀ q,q < j -> q < level (pl n) -> zy secret n (atS l q) = false) -> Sp [] G [bj 34 w ((rA l n secret j).map cB.av),ar i1 (.agg (secret.map u8v))] G' ->
        R [v,.int .i64 n,.ptr i1 [] 0,.int .i64 ((level (pl n):Nat):Int),w,.int .i64 (j:Int)] G':=by
      intro m
      induction m with
      | zero=>
        intro j w G' hm hj hb sp
        have hjl:j = 49:=by omega
        subst hjl
        have hall:yU l n secret = true:=by
          rw [yT]
          intro q hq
          exact hb q (by omega) hq
        rw [hall,if_pos rfl] at hQ
        refine hR _ _ _ _ _ _ _ ?_
        rw [aH,aa,decide_eq_false (by omega),aM]
        exact hQ _ _ (sp.erase 1)
      | succ m ih=>
        intro j w G' hm hj hb sp
        refine hR _ _ _ _ _ _ _ ?_
        rw [aH,aa,decide_eq_true (by omega),aX]
        have hao:=I5 hok j
        have ev:aw T .add au (.int .i64 (j:Int)) (.int .i64 1) = some (.int .i64 ((j + 1:Nat):Int)):=by
          rw [bf,i64_in (by omega) (by omega)]
          rfl
        refine fM.use (hl.ch' sp.ch) hok hlen fun G20 c20=>?_
        have s20:=sp.tmp c20
        obtain ⟨x,hx⟩:∃ x,x = atS l j:=⟨_,rfl⟩
        rw [<- hx] at hao ⊢
        refine LI s20 hao fun i21 G23 s23=>?_
        intro J65
        have h64:∀ G43,Sp [] G [ar i21 x.av,bj 34 w ((rA l n secret j).map cB.av),ar i1 (.agg (secret.map u8v))] G43 -> (j < level (pl n) -> zy secret n (atS l j) = false) ->
            (wv (aw T .eql au (.int .i64 (j:Int)) (.int .i64 ((level (pl n):Nat):Int))) fun v44=>brB (some v44)
  (wv (af T G43 aj (.ptr i1 [] 0)) fun v45=>wv (bk T ff [(0,.int .i64 n),(1,v45),(2,.bool true)]) fun v46=>wg (ax T G43 ff (.ptr i21 [] 0) v46) fun G47=>wv (af T G47 ff (.ptr i21 [] 0)) fun v54=>bh T bu 1 [(0,v54)] G47 fun v55 G56=>cc T G56 bu bu w v55 fun v57 G58=>wv (aw T .add au (.int .i64 (j:Int)) (.int .i64 1)) fun v69=>R [v,.int .i64 n,.ptr i1 [] 0,.int .i64 ((level (pl n):Nat):Int),v57,v69] G58)
  (wv (af T G43 ff (.ptr i21 [] 0)) fun v59=>bh T bu 1 [(0,v59)] G43 fun v60 G61=>cc T G61 bu bu w v60 fun v62 G63=>wv (aw T .add au (.int .i64 (j:Int)) (.int .i64 1)) fun v70=>R [v,.int .i64 n,.ptr i1 [] 0,.int .i64 ((level (pl n):Nat):Int),v62,v70] G63)):=by
          intro G43 s43 hbj
          have hb':∀ q,q < j + 1 -> q < level (pl n) -> zy secret n (atS l q) = false:=fun q hq hq2=>by
            by_cases hqj:q = j
            · subst hqj; exact hbj hq2
            · exact hb q (by omega) hq2
          have hgl:((rA l n secret j).length + 1) * 48 ≤ 140737488355328:=by rw [GH]; omega
          rw [bC,aa,aE]
          refine ⟨fun he=>?_,fun he=>?_⟩
          · refine ae (bE hs (ar.own (i:=2) s43 rfl)) ?_
            refine ae (EL hs true) ?_
            refine tP (i:=0) (s':=⟨n,secret,true⟩) s43 rfl hao hs fun G47 s47=>?_
            refine ae (qj (i:=0) (s:=⟨n,secret,true⟩) s47 rfl hs).2.2.2 ?_
            refine AA (i:=1) (s:=⟨n,secret,true⟩) s47 rfl hs hgl fun w' G58 s58=>?_
            have s58:=s58.erase 0
            have e:rA l n secret j ++ [⟨n,secret,true⟩] = rA l n secret (j + 1):=by rw [y6,if_pos (by omega)]
            rw [e] at s58
            exact ae ev (ih (j + 1) w' G58 (by omega) (by omega) hb' s58)
          · refine ae (qj (i:=0) s43 rfl hao).2.2.2 ?_
            refine AA (i:=1) s43 rfl hao hgl fun w' G58 s58=>?_
            have s58:=s58.erase 0
            have e:rA l n secret j ++ [x] = rA l n secret (j + 1):=by rw [y6,if_neg (by omega),hx]
            rw [e] at s58
            exact ae ev (ih (j + 1) w' G58 (by omega) (by omega) hb' s58)
        have hbad:zy secret n (atS l j) = true -> j < level (pl n) -> yU l n secret = false:=by
          intro hbad hj2
          refine Bool.eq_false_iff.2 fun h=>?_
          rw [yT] at h
          rw [h j hj2] at hbad
          cases hbad
        have h65n:(j < level (pl n) -> zy secret n (atS l j) = false) -> J65 (.bool false) G23:=by
          intro hbj
          simp -zeta only [J65,aM]
          exact h64 G23 s23 hbj
        rw [aH,aa,aE]
        refine ⟨fun hjl=>?_,fun hjl=>h65n fun h=>absurd h (by omega)⟩
        have hjl:j < level (pl n):=by omega
        obtain ⟨l0,l1,l2,l3⟩:=qj (i:=0) s23 rfl hao
        refine ae l2 ?_
        cases hf:x.full with
        | false=>
          refine h65n fun _=>?_
          rw [<- hx]
          unfold zy
          rw [hf]
          rfl
        | true=>
          simp -zeta only [J65,aX]
          have hbadj:zy secret n (atS l j) = !decide (jJ secret n x.index = (x.secret,0)):=by rw [<- hx]; unfold zy; rw [hf,Bool.true_and]
          refine ae (bE hs (ar.own (i:=2) s23 rfl)) ?_
          refine ae l0 ?_
          refine du.use hs fun G31 c31=>?_
          have s31:=s23.tmp c31
          refine ae (hi0 _) ?_
          refine ae (hi1 _) ?_
          have hdl:=ub hs n x.index
          refine Lf s31 hdl fun i34 G36 s36=>?_
          have fail:zy secret n (atS l j) = true -> Q (.tuple [.nilSlice,.int .i64 100]) G36:=by
            intro hb1
            rw [hbad hb1 hjl,if_neg (by simp)] at hQ
            exact hQ _ _ (((((s36.nd 34).erase 1).erase 1).erase 1).erase 1)
          rw [dy,aa]
          by_cases hz:(jJ secret n x.index).2 = 0
          · rw [decide_eq_true hz,Bool.not_true,aM]
            refine ae (bE hdl (ar.own (i:=0) s36 rfl)) ?_
            refine ae (qj (i:=1) s36 rfl hao).2.1 ?_
            refine ae (GJ hdl hao) ?_
            by_cases hd:(jJ secret n x.index).1 = x.secret
            · rw [decide_eq_true hd,Bool.not_true,aM]
              refine h64 G36 (s36.erase 0) fun _=>?_
              rw [hbadj,decide_eq_true (Prod.ext hd hz)]
              rfl
            · rw [decide_eq_false hd,Bool.not_false,aX]
              refine fail ?_
              rw [hbadj,decide_eq_false fun h=>hd (by rw [h])]
              rfl
          · rw [decide_eq_false hz,Bool.not_false,aX]
            refine fail ?_
            rw [hbadj,decide_eq_false fun h=>hz (by rw [h])]
            rfl
    exact loop 49 0 .nilSlice _ rfl (by omega) (fun q hq=>by omega) (s1.nd 34)
end
end Go.Esc.M
