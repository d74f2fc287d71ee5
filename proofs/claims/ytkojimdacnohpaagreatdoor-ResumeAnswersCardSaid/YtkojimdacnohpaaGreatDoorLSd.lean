import Derived.Test.YtkojimdacnohpaaGreatDoorLHb
set_option maxHeartbeats 4000000
set_option linter.unusedSimpArgs false
set_option linter.unusedVariables false
set_option maxRecDepth 20000
namespace Go.Esc
open Go Go.RowKit
theorem iu.ch {n:Nat} {G G':ah} {E:List AId} {v:ag} {vs:List ag} (h:iu n G v vs) (hc:Ch [] G E G'):iu n G' v vs:=by
 rcases h with ⟨id,p,st,off,len,cap,rfl,hl,h⟩ | h
 ·exact .inl ⟨_,_,_,_,_,_,rfl,hl,oY (fun j o hj=>hc.others j o hj (by simp)) h⟩
 ·exact .inr h
section
variable {T:Tbl} {ts e:TypeId} {si ie:TI} (ht:T ts = some si) (hd:si.desc = .slice e) (he:T e = some ie) (hz:sz ie.zero = ie.size)
include ht hd he hz in
theorem KS {G:ah} {c:ag} {K:ag -> ah -> Prop} (hc:sz c = ie.size) (hie:ie.size ≤ 16777216) (hK:∀ s' G',Own ie.size G' s' [c] -> Ch [] G (rowOf s').toList G' -> K s' G'):bh T ts 1 [(0,c)] G K:=by
 unfold bh
 have hf:Md (fun k=>some (k * ie.size,ie.size)) (List.replicate 1 ie.zero) [(0,c)] = some [c]:=by simp [Md,hz,hc,szs]
 simp only [ht,hd,he,hf]
 refine ⟨by omega,fun id hfr=>hK _ _ (.inr ⟨id,1,1,[c],rfl,ah.fc _ _ _,rfl,Nat.le_refl _,by simp [Esc.uni,hc],rfl⟩) ?_⟩
 simpa [rowOf] using Ch.new hfr
include ht hd he hz in
theorem IZ {G:ah} {a b:ag} {K:ag -> ah -> Prop} (ha:sz a = ie.size) (hb:sz b = ie.size) (hie:2 * ie.size ≤ 16777216) (hK:∀ s' G',Own ie.size G' s' [a,b] -> Ch [] G (rowOf s').toList G' -> K s' G'):bh T ts 2 [(0,a),(1,b)] G K:=by
 unfold bh
 have hf:Md (fun k=>some (k * ie.size,ie.size)) (List.replicate 2 ie.zero) [(0,a),(1,b)] = some [a,b]:=by simp [Md,hz,ha,hb,szs,List.replicate]
 simp only [ht,hd,he,hf]
 refine ⟨by omega,fun id hfr=>hK _ _ (.inr ⟨id,2,2,[a,b],rfl,ah.fc _ _ _,rfl,Nat.le_refl _,by simp [Esc.uni,ha,hb],rfl⟩) ?_⟩
 simpa [rowOf] using Ch.new hfr
end
theorem yp (a b:Nat):(a:Int).tdiv (b:Int) = ((a / b:Nat):Int):=by
 rw [Int.tdiv_eq_ediv_of_nonneg (Int.natCast_nonneg _)]; rfl
theorem Ac (a b:Nat):(a:Int).tmod (b:Int) = ((a % b:Nat):Int):=by
 rw [Int.tmod_eq_emod_of_nonneg (Int.natCast_nonneg _)]; rfl
theorem length_bytesBE (v:Nat):∀ k,(bytesBE k v).length = k
 | 0=>rfl
 | k + 1=>by simp [bytesBE,length_bytesBE v k]
theorem Gk {v m:Nat} {s:Int} {kk:IntKind} (hs:s = ((8 * m:Nat):Int)) (hm:m ≤ 7) {T:Tbl} {t:TypeId}:aw T .shr t (.int .u64 (v:Int)) (.int kk s) = some (.int .u64 ((v / 2 ^ (8 * m):Nat):Int)):=by
 subst hs
 rw [l9 _ _ _ _ _ _ (by omega)]
 have h1:min ((8 * m:Nat):Int).toNat IntKind.u64.bits = 8 * m:=by
  have:IntKind.u64.bits = 64:=rfl
  omega
 have h2:((2:Int) ^ (8 * m)) = ((2 ^ (8 * m):Nat):Int):=by simp
 rw [h1,h2,Int.fdiv_eq_ediv_of_nonneg _ (Int.natCast_nonneg _)]
 congr 2
theorem ua (s:List UInt8):(pad s).length % 64 = 0 /\ (pad s).length ≤ s.length + 72:=by
 unfold pad
 simp only [List.length_append,List.length_cons,List.length_replicate,length_bytesBE]
 constructor <;> omega
theorem rb:∀ (n:Nat) {h:List Nat} (m:List UInt8),h.length = 8 -> (chain n h m).length = 8
 | 0,h,m,hh=>hh
 | n + 1,h,m,hh=>rb n _ (oJ hh)
theorem od (h:List Nat):(pB h).length = 32:=by simp [pB]
theorem gI (s:List UInt8):(sha s).length = 32:=od _
def kB (key:List UInt8) (c:UInt8):List UInt8:=(key ++ List.replicate 32 0).map fun b=>b ^^^ c
def mac (key text:List UInt8):List UInt8:=sha (kB key 0x5c ++ sha (kB key 0x36 ++ text))
theorem u8_xor {T:Tbl} {t:TypeId} (a b:UInt8):aw T .xor t (u8v a) (u8v b) = some (u8v (a ^^^ b)):=by
 have hb:IntKind.u8.bits = 8:=rfl
 have h1:a.toNat < 2 ^ 8:=a.toNat_lt
 have h2:b.toNat < 2 ^ 8:=b.toNat_lt
 unfold u8v
 rw [Ct,ya,BitVec.toNat_xor,tC,tC,hb,Nat.mod_eq_of_lt h1,Nat.mod_eq_of_lt h2,UInt8.toNat_xor]
 have:a.toNat ^^^ b.toNat < 2 ^ 8:=Nat.xor_lt_two_pow h1 h2
 congr 2
 omega
end Go.Esc
namespace Go.Esc.M
open Go Go.Esc
section
variable {G:ah} {Q:ag -> ah -> Prop}
def part (D:List UInt8) (n j:Nat):List UInt8:=D.take j ++ List.replicate (n - j) 0
theorem C8 {D:List UInt8} {n j:Nat} (hD:D.length = n) (hj:j ≤ n):(part D n j).length = n:=by simp [part]; omega
theorem H3 {D:List UInt8} {n j:Nat} (hD:D.length = n) (hj:j < n):(part D n j).set j (D[j]'(by omega)) = part D n (j + 1):=by
 unfold part
 have hl:(D.take j).length = j:=by simp; omega
 rw [List.set_append_right _ _ (by omega),hl,Nat.sub_self,show n - j = (n - (j + 1)) + 1 by omega,List.replicate_succ,List.set_cons_zero,List.take_succ_eq_append_getElem (by omega),List.append_assoc]
 rfl
theorem Gq {D:List UInt8} {n:Nat} (hD:D.length = n):part D n n = D:=by simp [part,<- hD]
theorem xf {F0:List AId} {G0:ah} {h:List Nat} {x0:ag} {is ir:AId} {G':ah} {ps:List LP} {p q:Nat} (hh:h.length = 8) (hp:p < ps.length) (hpq:p ≠ q) (hq:ps[q]? = some (ar is (.agg (fh h)))) (R:List ag -> ah -> Prop) (E:ag -> ag -> ah -> Prop)
  (hR:∀ (x69 x70 x71 x72:ag) (G68:ah),(wv (aw T .lss au x72 (.int .i64 32)) fun v73=>brB (some v73)
   (wv (aw T .quo au x72 (.int .i64 4)) fun v74=>wv (aL T bg x70 v74) fun v75=>wv (lq T G68 az v75) fun v76=>wv (aw T .rem au x72 (.int .i64 4)) fun v77=>wv (aw T .mul au (.int .i64 8) v77) fun v78=>wv (aw T .sub au (.int .i64 24) v78) fun v79=>wv (aw T .shr az v76 v79) fun v80=>wv (gi T G68 az cg v80) fun v81=>wv (aL T aj x71 x72) fun v82=>wg (ax T G68 cg v82 v81) fun G83=>wv (aw T .add au x72 (.int .i64 1)) fun v84=>R [x69,x70,x71,v84] G83)
   (E x69 x71 G68)) -> R [x69,x70,x71,x72] G68)
  (hsp:Sp F0 G0 (ps.set p (ar ir (.agg ((List.replicate 32 (0:UInt8)).map u8v)))) G') (hfin:∀ G',Sp F0 G0 (ps.set p (ar ir (.agg ((pB h).map u8v)))) G' -> E x0 (.ptr ir [] 0) G') :
  R [x0,.ptr is [] 0,.ptr ir [] 0,.int .i64 0] G':=by
 have hD:=od h
 have loop:∀ (n j:Nat) (G':ah),32 - j = n -> j ≤ 32 -> Sp F0 G0 (ps.set p (ar ir (.agg ((part (pB h) 32 j).map u8v)))) G' -> R [x0,.ptr is [] 0,.ptr ir [] 0,.int .i64 (j:Int)] G':=by
  intro n
  induction n with
  | zero=>
   intro j G' hn hj hs
   have:j = 32:=by omega
   subst this
   refine hR _ _ _ _ _ ?_
   rw [aH,aa,aE]
   refine ⟨fun h=>absurd h (by decide),fun _=>hfin _ ?_⟩
   rw [Gq hD] at hs
   exact hs
  | succ n ih=>
   intro j G' hn hj hs
   have hj32:j < 32:=by omega
   have g1:=ar.own (i:=p) hs (List.getElem?_set_self hp)
   have g2:=ar.own (i:=q) hs (by rw [List.getElem?_set_ne hpq]; exact hq)
   obtain ⟨x,hx⟩:∃ x,h[j / 4]? = some x:=⟨_,List.getElem?_eq_getElem (by omega)⟩
   refine hR _ _ _ _ _ ?_
   rw [aH,aa,aE]
   refine ⟨fun _=>?_,fun h=>absurd (by omega) h⟩
   have hq4:(j:Int).tdiv 4 = ((j / 4:Nat):Int):=yp j 4
   have hr4:(j:Int).tmod 4 = ((j % 4:Nat):Int):=Ac j 4
   rw [yh _ _ _ _ _ (by decide),aa,hq4,i64_in (by omega) (by omega),jt rfl (by omega),aa,gx g2 hx,aa,qg _ _ _ _ _ (by decide),aa,hr4,jL,aa,i64_in (by omega) (by omega),bS,aa,i64_in (by omega) (by omega)]
   rw [qO (k:=24 - 8 * (j % 4)) (by omega) (by omega),aa,iF jS dz rfl,aa,mD hj32,aa]
   have hb:(pB h)[j]'(by rw [hD]; exact hj32) = UInt8.ofNat (yz (24 - 8 * (j % 4)) x):=by
    simp only [pB,List.getElem_map,List.getElem_range,List.getD_eq_getElem?_getD,hx]
    rfl
   have hu:(ag.int .u8 (IntKind.u8.wrap ((yz (24 - 8 * (j % 4)) x:Nat):Int))) = u8v ((pB h)[j]'(by rw [hD]; exact hj32)):=by
    rw [hb,lM,ya]
    rfl
   rw [hu,tM (by rw [C8 hD hj]; exact hj32) g1,iI,H3 hD hj32,wi,aa,i64_in (by omega) (by omega)]
   refine ih (j + 1) _ (by omega) (by omega) ?_
   have:=Sp.setRow hs (j:=p) (List.getElem?_set_self hp) (.agg ((part (pB h) 32 (j + 1)).map u8v))
   rwa [List.set_set] at this
 exact loop 32 0 G' rfl (by omega) (by simpa [part] using hsp)
theorem sM {v:ag} {l:List UInt8} (h:Own 1 G v (l.map u8v)):gF T G aP v = some (.int .i64 (l.length:Nat)):=by
 rw [h.is.len (i:=fS) fu rfl,List.length_map]
theorem zd {F0:List AId} {G0:ah} {ps:List LP} {s:ag} {l:List UInt8} {b:UInt8} {i:Nat} {K:ag -> ah -> Prop} (hs:Sp F0 G0 ps G) (hi:ps[i]? = some (bj 1 s (l.map u8v))) (hl:l.length + 1 ≤ 140737488355328)
  (hK:∀ s' G',Sp F0 G0 (ps.set i (bj 1 s' ((l ++ [b]).map u8v))) G' -> K s' G'):bh T aP 1 [(0,u8v b)] G fun v G'=>cc T G' aP aP s v K:=by
 obtain ⟨F,ho,_⟩:=hs.get hi
 refine B6 (T:=T) (ts:=aP) (e:=cg) (si:=fS) (ie:=fY) fu rfl dz rfl (by decide) ho rfl rfl (by decide) ?_ fun s' G2 ho2 hk=>hK s' G2 ?_
 ·simp only [List.length_map,fY]
  omega
 ·refine hs.call hi (bj 1 s' ((l ++ [b]).map u8v)) fun F h k=>?_
  obtain ⟨_,rfl⟩:=h
  exact k _ _ ⟨by rw [List.map_append]; exact ho2,rfl⟩ hk.ch
theorem iK.use {v:ag} {xs:List (List UInt8)} (h:iu 1 G v (xs.map .str)) (hN:xs.length ≤ 140737488355328) (hl:xs.flatten.length ≤ 281474976710656) (hQ:∀ G',Ch [] G [] G' -> Q (.agg ((sha xs.flatten).map u8v)) G') :
  al P iK.n [v] G Q:=by
 refine iK.sound ?_
 unfold iK.S
 rw [kM]
 intro i1 f1
 have s1:=(Sp.nil G).row f1 (.agg ((List.replicate 32 (0:UInt8)).map u8v))
 refine strings_Join.use (h.ch f1.ch) hN hl ?_
 unfold sha at hQ
 revert hQ hl
 generalize xs.flatten = s
 intro hl hQ
 obtain ⟨D,hD⟩:∃ D,chain ((pad s).length / 64) zD (pad s) = D:=⟨_,rfl⟩
 rw [hD] at hQ
 have hD8:D.length = 8:=by rw [<- hD]; exact rb _ _ rfl
 have hlen:∀ G (l:List UInt8),gF T G bH (.str l) = some (.int .i64 (l.length:Nat)):=fun _ _=>rfl
 rw [hlen,aa]
 refine KS (T:=T) (ts:=aP) (e:=cg) (si:=fS) (ie:=fY) fu rfl dz rfl rfl (by decide) fun pd G7 h7 c7=>?_
 have s7:=s1.new (p:=bj 1 pd ([(128:UInt8)].map u8v)) ⟨h7,rfl⟩ c7
 intro R8 hR8
 obtain ⟨zt,hzt⟩:∃ zt,zt = (119 - s.length % 64) % 64:=⟨_,rfl⟩
 have loop1:∀ (n z:Nat) (pd:ag) (G':ah),zt - z = n -> z ≤ zt -> Sp [] G [bj 1 pd (((128:UInt8) :: List.replicate z 0).map u8v),ar i1 (.agg ((List.replicate 32 (0:UInt8)).map u8v))] G' ->
   R8 [.ptr i1 [] 0,.str s,.int .i64 (s.length:Nat),pd] G':=by
  intro n
  induction n with
  | zero=>
   intro z pd G' hn hz hs
   have:z = zt:=by omega
   subst this
   obtain ⟨F,ho,_⟩:=hs.get (i:=0) rfl
   refine hR8 _ _ _ _ _ ?_
   rw [sM ho,aa,wi,aa,List.length_cons,List.length_replicate,i64_in (by omega) (by omega),qg _ _ _ _ _ (by decide),aa]
   have hm:((s.length:Int) + ((z + 1:Nat):Int)).tmod 64 = 56:=by
    rw [Int.tmod_eq_emod_of_nonneg (by omega)]
    omega
   rw [hm,dy,aa,fg]
   refine ⟨fun h=>absurd rfl h,fun _=>?_⟩
   intro R22 hR22
   have loop2:∀ (m:Nat) (k:Nat) (bs:List UInt8) (pd:ag) (G':ah),8 - k = m -> k ≤ 8 -> bs ++ bytesBE m (8 * s.length) = (128:UInt8) :: (List.replicate z 0 ++ bytesBE 8 (8 * s.length)) -> bs.length ≤ 200 ->
     Sp [] G [bj 1 pd (bs.map u8v),ar i1 (.agg ((List.replicate 32 (0:UInt8)).map u8v))] G' -> R22 [.ptr i1 [] 0,.str s,.int .i64 (s.length:Nat),pd,.int .i64 (k:Int)] G':=by
    intro m
    induction m with
    | zero=>
     intro k bs pd G' hm hk he hbl hs
     have:k = 8:=by omega
     subst this
     rw [bytesBE,List.append_nil] at he
     subst he
     obtain ⟨F,ho,_⟩:=hs.get (i:=0) rfl
     refine hR22 _ _ _ _ _ _ ?_
     rw [aH,aa,aE]
     refine ⟨fun h=>absurd h (by decide),fun _=>?_⟩
     rw [jZ fu rfl dz rfl fZ rfl ho.is,aa,sq _ _ (by omega),aa]
     have hpad:s ++ (128:UInt8) :: (List.replicate z 0 ++ bytesBE 8 (8 * s.length)) = pad s:=by rw [pad,<- hzt]
     rw [hpad]
     refine ae (v:=.agg (fh zD)) (by kernel_rfl) ?_
     have sA:=hs.erase 0
     rw [z8]
     intro i44 f44
     have s45:=sA.row f44 (.agg (fh (List.replicate 8 0)))
     rw [lQ (by simp) (ws':=zD) rfl (ar.own (i:=0) s45 rfl),iI]
     have s46:=Sp.setRow s45 (j:=0) rfl (.agg (fh zD))
     refine fL.use fun G48 c48=>?_
     have s48:=s46.tmp c48
     rw [z64]
     intro i49 f49
     have s50:=s48.row f49 (.agg (fh (List.replicate 64 0)))
     rw [rr (by simp) (ws':=ni) rfl (ar.own (i:=0) s50 rfl),iI]
     have s51:=Sp.setRow s50 (j:=0) rfl (.agg (fh ni))
     intro R52 hR52
     have loop3:∀ (n:Nat) (m:List UInt8) (h:List Nat) (G':ah),m.length = 64 * n -> h.length = 8 -> chain n h m = D ->
       Sp [] G [ar i49 (.agg (fh ni)),ar i44 (.agg (fh h)),ar i1 (.agg ((List.replicate 32 (0:UInt8)).map u8v))] G' -> R52 [.ptr i1 [] 0,.str m,.ptr i44 [] 0,.ptr i49 [] 0] G':=by
      intro n
      induction n with
      | zero=>
       intro m h G' hm hh he hs
       have:m = []:=List.length_eq_zero_iff.1 hm
       subst this
       have he:h = D:=he
       subst he
       refine hR52 _ _ _ _ _ ?_
       rw [vu,aa,fg]
       refine ⟨fun h=>absurd rfl h,fun _=>?_⟩
       intro i65 f65
       have s66:=hs.row f65 (.agg ((List.replicate 32 (0:UInt8)).map u8v))
       intro R67 hR67
       refine xf (p:=0) (q:=2) (x0:=.ptr i1 [] 0) hh (by simp) (by decide) (ps:=[ar i65 (.agg ((List.replicate 32 (0:UInt8)).map u8v)),ar i49 (.agg (fh ni)),ar i44 (.agg (fh h)),ar i1 (.agg ((List.replicate 32 (0:UInt8)).map u8v))]) rfl R67 _ hR67 s66 fun G9 h9=>?_
       have hz:=od h
       rw [bE hz (ar.own (i:=0) h9 rfl),aa,gg (by simp) hz (ar.own (i:=3) h9 rfl),iI,bE hz (ah.fc _ _ _),aa]
       exact hQ _ (Sp.setRow h9 (j:=3) rfl (.agg ((pB h).map u8v))).ch
      | succ n ih=>
       intro m h G' hm hh he hs
       refine hR52 _ _ _ _ _ ?_
       rw [vu,aa,fg]
       refine ⟨fun _=>?_,fun h=>absurd (congrArg List.length h) (by rw [hm]; simp)⟩
       rw [mV hh (ar.own (i:=1) hs rfl),aa,Jv (by omega) (by omega),aa]
       refine gR.use hh (by simp; omega) (ar.own (i:=0) hs rfl) fun G9 c9=>?_
       have s9:=hs.tmp c9
       have hc8:(compress h (m.take 64)).length = 8:=oJ hh
       show wg (ax T G9 bg (.ptr i44 [] 0) (.agg (fh (compress h (m.take 64))))) _
       rw [lQ hh hc8 (ar.own (i:=1) s9 rfl),iI,HK (by omega) (by omega),aa]
       exact ih (m.drop 64) _ _ (by simp; omega) hc8 he (Sp.setRow s9 (j:=1) rfl _)
     have hp:=ua s
     exact loop3 ((pad s).length / 64) (pad s) zD _ (by omega) rfl hD s51
    | succ m ih=>
     intro k bs pd G' hm hk he hbl hs
     refine hR22 _ _ _ _ _ _ ?_
     rw [aH,aa,aE]
     refine ⟨fun _=>?_,fun h=>absurd (by omega) h⟩
     rw [jL,aa,i64_in (by omega) (by omega),iF hO mW rfl,aa,u64_in (by omega) (by omega),jL,aa,i64_in (by omega) (by omega),bS,aa,i64_in (by omega) (by omega)]
     have e8:(8:Int) * (s.length:Nat) = ((8 * s.length:Nat):Int):=by omega
     rw [e8,Gk (m:=m) (by omega) (by omega),aa,iF mW dz rfl,aa,ya]
     have eb:(ag.int .u8 (((8 * s.length / 2 ^ (8 * m):Nat):Int) % 256)) = u8v (UInt8.ofNat (8 * s.length / 2 ^ (8 * m))):=by rw [lM]; rfl
     rw [eb]
     have hbl':bs.length + (m + 1) ≤ 72 + 1:=by
      have:=congrArg List.length he
      simp only [List.length_append,length_bytesBE,List.length_cons,List.length_replicate] at this
      omega
     refine zd (i:=0) hs rfl (by omega) fun s' G9 s9=>?_
     rw [wi,aa,i64_in (by omega) (by omega)]
     refine ih (k + 1) _ s' G9 (by omega) (by omega) ?_ (by simp; omega) s9
     rw [bytesBE] at he
     rw [List.append_assoc,List.singleton_append]
     exact he
   exact loop2 8 0 ((128:UInt8) :: List.replicate z 0) pd G' rfl (by omega) rfl (by simp; omega) hs
  | succ n ih=>
   intro z pd G' hn hz hs
   obtain ⟨F,ho,_⟩:=hs.get (i:=0) rfl
   refine hR8 _ _ _ _ _ ?_
   rw [sM ho,aa,wi,aa,List.length_cons,List.length_replicate,i64_in (by omega) (by omega),qg _ _ _ _ _ (by decide),aa]
   have hm:((s.length:Int) + ((z + 1:Nat):Int)).tmod 64 ≠ 56:=by
    rw [Int.tmod_eq_emod_of_nonneg (by omega)]
    omega
   rw [dy,aa,fg]
   refine ⟨fun _=>?_,fun h=>absurd h hm⟩
   refine zd (i:=0) (b:=0) hs rfl (by simp; omega) fun s' G9 s9=>?_
   refine ih (z + 1) s' G9 (by omega) (by omega) ?_
   have:(128:UInt8) :: List.replicate (z + 1) 0 = (128:UInt8) :: List.replicate z 0 ++ [0]:=by rw [List.replicate_succ']; rfl
   rw [this]
   exact s9
 exact loop1 zt 0 pd G7 rfl (by omega) s7
end
end Go.Esc.M
namespace Go.Esc
open Go Go.RowKit
def mix {α:Type} (D X:List α) (j:Nat):List α:=D.take j ++ X.drop j
theorem C4 {α:Type} (D X:List α):mix D X 0 = X:=by simp [mix]
theorem C5 {α:Type} {D X:List α} (h:D.length = X.length):mix D X X.length = D:=by simp [mix,<- h]
theorem Fx {α:Type} {D X:List α} {j:Nat} (h:D.length = X.length) (hj:j < X.length):(mix D X j)[j]? = some X[j]:=by
 unfold mix
 have hl:(D.take j).length = j:=by simp; omega
 rw [List.getElem?_append_right (by omega),hl,Nat.sub_self,List.getElem?_drop,Nat.add_zero,List.getElem?_eq_getElem hj]
theorem Fw {α:Type} {D X:List α} {j:Nat} (h:D.length = X.length) (hj:j < X.length):(mix D X j).set j (D[j]'(by omega)) = mix D X (j + 1):=by
 unfold mix
 have hl:(D.take j).length = j:=by simp; omega
 rw [List.set_append_right _ _ (by omega),hl,Nat.sub_self,List.drop_eq_getElem_cons hj,List.set_cons_zero,List.take_succ_eq_append_getElem (by omega),List.append_assoc]
 rfl
theorem K5 {b0 b1 b2 b3:Nat} (h0:b0 < 256) (h1:b1 < 256) (h2:b2 < 256) (h3:b3 < 256):vV (vV (vV (ox 24 b0) (ox 16 b1)) (ox 8 b2)) b3 = ((b0 * 256 + b1) * 256 + b2) * 256 + b3:=by
 have e1:ox 16 b1 = 2 ^ 16 * b1:=by unfold ox; omega
 have e2:ox 8 b2 = 2 ^ 8 * b2:=by unfold ox; omega
 have e3:2 ^ 24 * b0 + 2 ^ 16 * b1 = ox 16 (256 * b0 + b1):=by unfold ox; omega
 have e4:2 ^ 16 * (256 * b0 + b1) + 2 ^ 8 * b2 = ox 8 (256 * (256 * b0 + b1) + b2):=by unfold ox; omega
 rw [e1,e2,BB 24 _ _ (by omega) (by omega),e3,BB 16 _ _ (by omega) (by omega),e4,BB 8 _ _ (by omega) (by omega)]
 omega
theorem JA {v m:Nat} {s:Int} {kk:IntKind} (hs:s = ((8 * m:Nat):Int)) (hm:m ≤ 7) {T:Tbl} {t:TypeId}:aw T .shr t (.int .i64 (v:Int)) (.int kk s) = some (.int .i64 ((v / 2 ^ (8 * m):Nat):Int)):=by
 subst hs
 rw [l9 _ _ _ _ _ _ (by omega)]
 have h1:min ((8 * m:Nat):Int).toNat IntKind.i64.bits = 8 * m:=by
  have:IntKind.i64.bits = 64:=rfl
  omega
 have h2:((2:Int) ^ (8 * m)) = ((2 ^ (8 * m):Nat):Int):=by simp
 rw [h1,h2,Int.fdiv_eq_ediv_of_nonneg _ (Int.natCast_nonneg _)]
 congr 2
theorem fV.ch {n:Nat} {G G':ah} {E:List AId} {v:ag} {vs:List ag} (h:fV n G v vs) (hc:Ch [] G E G'):fV n G' v vs:=h.le fun j o hj=>hc.others j o hj (by simp)
theorem mu {key:List UInt8} (h:key.length = 32) (c:UInt8):(kB key c).length = 64:=by simp [kB,h]
end Go.Esc
namespace Go.Esc.M
open Go Go.Esc
section
variable {G:ah} {Q:ag -> ah -> Prop}
theorem wI {i:AId}:fj T j5 (.ptr i [] 0) none none none = some (.slice i [] 0 0 64 64):=by
 have e1:T j5 = some mP:=rz
 have e2:mP.desc = .array 64 cg:=rfl
 simp [fj,e1,e2,dz,jh,j7]
theorem iH.use {key:List UInt8} {c:UInt8} (hk:key.length = 32) (hQ:∀ G',Ch [] G [] G' -> Q (.str (kB key c)) G'):al P iH.n [.agg (key.map u8v),u8v c] G Q:=by
 refine iH.sound ?_
 unfold iH.S
 have hz:qI = .agg ((List.replicate 64 (0:UInt8)).map u8v):=rfl
 rw [hz]
 intro i1 f1
 have s1:=(Sp.nil G).row f1 (.agg (key.map u8v))
 intro i3 f3
 have s3:=s1.row f3 (.agg ((List.replicate 64 (0:UInt8)).map u8v))
 rw [wI,aa,oh,aa]
 have hX:(key ++ List.replicate 32 0).length = 64:=by simp [hk]
 refine s3.call (i:=0) rfl (ar i3 (.agg ((key ++ List.replicate 32 (0:UInt8)).map u8v))) fun F h k=>?_
 obtain ⟨h,rfl⟩:=h
 refine EG (qV (ar.own (i:=1) s3 rfl) hk).elems h (by simp) (by omega) fun G8 g8 c8=>?_
 have e8:key ++ (List.replicate 64 (0:UInt8)).drop key.length = key ++ List.replicate 32 0:=by rw [List.drop_replicate,hk]
 rw [e8] at g8
 have s8:=k _ _ ⟨g8,rfl⟩ c8
 intro R9 hR9
 have hD:(kB key c).length = (key ++ List.replicate 32 (0:UInt8)).length:=by simp [kB]
 have loop:∀ (n j:Nat) (G':ah),64 - j = n -> j ≤ 64 -> Sp [] G [ar i3 (.agg ((mix (kB key c) (key ++ List.replicate 32 0) j).map u8v)),ar i1 (.agg (key.map u8v))] G' -> R9 [u8v c,.ptr i3 [] 0,.int .i64 (j:Int)] G':=by
  intro n
  induction n with
  | zero=>
   intro j G' hn hj hs
   have:j = (key ++ List.replicate 32 (0:UInt8)).length:=by omega
   subst this
   have g3:=ar.own (i:=0) hs rfl
   rw [C5 hD] at g3
   refine hR9 _ _ _ _ ?_
   rw [aH,aa,aE]
   refine ⟨fun h=>absurd h (by omega),fun _=>?_⟩
   rw [wI,aa,jZ fu rfl dz rfl fZ rfl (qV g3 (mu hk c)),aa]
   exact hQ _ hs.ch
  | succ n ih=>
   intro j G' hn hj hs
   have hj64:j < 64:=by omega
   have g3:=ar.own (i:=0) hs rfl
   have hg:((mix (kB key c) (key ++ List.replicate 32 0) j).map u8v)[j]? = some (u8v ((key ++ List.replicate 32 (0:UInt8))[j]'(by omega))):=by
    rw [List.getElem?_map,Fx hD (by omega)]; rfl
   have ad:aL T j5 (.ptr i3 [] 0) (.int .i64 (j:Int)) = some (.ptr i3 [j] j):=pH rz rfl dz rfl rfl hj64
   refine hR9 _ _ _ _ ?_
   rw [aH,aa,aE]
   refine ⟨fun _=>?_,fun h=>absurd (by omega) h⟩
   rw [ad,aa,vf dz g3 (ji _) hg rfl,aa,u8_xor,aa,aa]
   refine fK (sZ dz g3 (ji _) hg rfl rfl rfl) ?_
   rw [wi,aa,i64_in (by omega) (by omega)]
   have hset:((mix (kB key c) (key ++ List.replicate 32 0) j).map u8v).set j (u8v ((key ++ List.replicate 32 (0:UInt8))[j]'(by omega) ^^^ c)) = (mix (kB key c) (key ++ List.replicate 32 0) (j + 1)).map u8v:=by
    have e:(key ++ List.replicate 32 (0:UInt8))[j]'(by omega) ^^^ c = (kB key c)[j]'(by omega):=by simp only [kB,List.getElem_map]
    rw [e,<- List.map_set,Fw hD (by omega)]
   rw [hset]
   exact ih (j + 1) _ (by omega) (by omega) (Sp.setRow hs (j:=0) rfl _)
 exact loop 64 0 G8 rfl (by omega) (by rw [C4]; exact s8)
theorem CV {a b:List UInt8} {v:ag} (h:Own 1 G v [.str a,.str b]):iu 1 G v ([a,b].map .str):=h.cap
theorem jB.use {key text:List UInt8} (hk:key.length = 32) (hl:text.length ≤ 281474976710592) (hQ:∀ G',Ch [] G [] G' -> Q (.agg ((mac key text).map u8v)) G'):al P jB.n [.agg (key.map u8v),.str text] G Q:=by
 refine jB.sound ?_
 unfold jB.S
 rw [kM]
 intro i1 f1
 have s1:=(Sp.nil G).row f1 (.agg (key.map u8v))
 intro i3 f3
 have s3:=s1.row f3 (.agg ((List.replicate 32 (0:UInt8)).map u8v))
 rw [bE hk (ar.own (i:=1) s3 rfl),aa]
 refine iH.use (c:=0x36) hk fun G7 c7=>?_
 have s7:=s3.tmp c7
 have hlo:=mu hk 0x36
 have hlo':=mu hk 0x5c
 refine IZ (T:=T) (ts:=im) (e:=bH) (si:=jm) (ie:=iO) lD rfl fZ rfl rfl rfl (by decide) fun v8 G9 o9 c9=>?_
 have s9:=s7.tmp c9
 refine iK.use (CV o9) (by simp) (by simp; omega) fun G11 c11=>?_
 have s11:=s9.tmp c11
 have e1:[kB key 0x36,text].flatten = kB key 0x36 ++ text:=by simp
 rw [e1]
 have hs1:=gI (kB key 0x36 ++ text)
 intro i12 f12
 have s13:=s11.row f12 (.agg ((List.replicate 32 (0:UInt8)).map u8v))
 rw [gg (by simp) hs1 (ar.own (i:=0) s13 rfl),iI]
 have s14:=Sp.setRow s13 (j:=0) rfl (.agg ((sha (kB key 0x36 ++ text)).map u8v))
 rw [bE hk (ar.own (i:=2) s14 rfl),aa,oh,aa,jZ fu rfl dz rfl fZ rfl (qV (ar.own (i:=0) s14 rfl) hs1),aa]
 refine iH.use (c:=0x5c) hk fun G19 c19=>?_
 have s19:=s14.tmp c19
 have fin:∀ G20,Sp [] G [ar i12 (.agg ((sha (kB key 0x36 ++ text)).map u8v)),ar i3 (.agg ((List.replicate 32 (0:UInt8)).map u8v)),ar i1 (.agg (key.map u8v))] G20 ->
   bh T im 2 [(0,.str (kB key 0x5c)),(1,.str (sha (kB key 0x36 ++ text)))] G20 fun v20 G21=>al P iK.n [v20] G21 fun v22 G23=>wg (ax T G23 aj (.ptr i3 [] 0) v22) fun G24=>wv (lq T G24 aj (.ptr i3 [] 0)) fun v25=>Q v25 G24:=by
  intro G20 s20
  refine IZ (T:=T) (ts:=im) (e:=bH) (si:=jm) (ie:=iO) lD rfl fZ rfl rfl rfl (by decide) fun v8 G21 o21 c21=>?_
  have s21:=s20.tmp c21
  refine iK.use (CV o21) (by simp) (by simp; omega) fun G23 c23=>?_
  have s23:=s21.tmp c23
  have e1:[kB key 0x5c,sha (kB key 0x36 ++ text)].flatten = kB key 0x5c ++ sha (kB key 0x36 ++ text):=by simp
  rw [e1]
  have hm:(mac key text).length = 32:=gI _
  show wg (ax T G23 aj (.ptr i3 [] 0) (.agg ((mac key text).map u8v))) _
  rw [gg (by simp) hm (ar.own (i:=1) s23 rfl),iI,bE hm (ah.fc _ _ _),aa]
  exact hQ _ (Sp.setRow s23 (j:=1) rfl (.agg ((mac key text).map u8v))).ch
 first
 | exact fin _ s19
 | exact ⟨⟨jZ fu rfl dz rfl fZ rfl (qV (ar.own (i:=0) s19 rfl) hs1),bE hk (ar.own (i:=2) s19 rfl),trivial⟩,fin _ s19⟩
 | exact ⟨⟨jZ fu rfl dz rfl fZ rfl (qV (ar.own (i:=0) s19 rfl) hs1),trivial⟩,fin _ s19⟩
theorem bF.use {a r:Nat} {m:Int} (hm:m = (r:Int)) (h1:1 ≤ r) (h2:r ≤ 31) (hQ:Q (.int .u32 (xF r a:Nat)) G):al P bF.n [.int .u32 (a:Int),.int .i64 m] G Q:=by
 subst hm
 refine bF.sound ?_
 unfold bF.S
 rw [qO (k:=r) rfl (by omega),aa,bS,aa,i64_in (by omega) (by omega),sv (k:=32 - r) (by omega) (by omega),aa,u32_or,aa]
 exact hQ
theorem dv.use (hQ:∀ G',Ch [] G [] G' -> Q (.agg (fh ni)) G'):al P dv.n [] G Q:=by
 refine dv.sound ?_
 unfold dv.S
 intro i1 f1
 refine ae (v:=.agg (fh ni)) (by kernel_rfl) ?_
 rw [z64]
 have s1:=(Sp.nil G).row f1 (.agg (fh (List.replicate 64 0)))
 rw [rr (by simp) (ws':=ni) rfl (ar.own (i:=0) s1 rfl),iI,Hl rfl (ah.fc _ _ _),aa]
 exact hQ _ (Sp.setRow s1 (j:=0) rfl (.agg (fh ni))).ch
end
end Go.Esc.M
namespace Go.Esc.M
open Go Go.Esc
section
variable {G:ah} {Q:ag -> ah -> Prop}
theorem FQ {v:ag} {p:List UInt8} {j:Nat} {m:Int} (h:fV 1 G v (p.map u8v)) (hm:m = (j:Int)) (hj:j < p.length):∃ a,aL T aP v (.int .i64 m) = some a /\ lq T G cg a = some (u8v p[j]):=by
 subst hm
 exact h.at_ (k:=.i64) (i:=fS) (ie:=fY) (T:=T) (t:=aP) (e:=cg) fu rfl dz (by rw [List.getElem?_map,List.getElem?_eq_getElem hj]; rfl) rfl
theorem qN (b:UInt8):gi T G cg az (u8v b) = some (.int .u32 (b.toNat:Nat)):=Aa b
theorem dZ.use {s:List Nat} {p:List UInt8} {v:ag} {at_:Nat} (hs8:s.length = 8) (hp:fV 1 G v (p.map u8v)) (hat:at_ + 64 ≤ p.length) (hpl:p.length ≤ 9223372036854775807) (hQ:∀ G',Ch [] G [] G' -> Q (.agg (fh (compress s ((p.drop at_).take 64)))) G') :
  al P dZ.n [.agg (fh s),v,.int .i64 (at_:Int)] G Q:=by
 refine dZ.sound ?_
 unfold dZ.S
 rw [z8,z64]
 unfold compress at hQ
 obtain ⟨b,hbd⟩:∃ b,(p.drop at_).take 64 = b:=⟨_,rfl⟩
 rw [hbd] at hQ
 have hb64:b.length = 64:=by rw [<- hbd]; simp; omega
 have hbj:∀ j,(hj:j < 64) -> b[j]'(by omega) = p[at_ + j]'(by omega):=by
  intro j hj
  subst hbd
  simp
 obtain ⟨W,hW⟩:∃ W,sched 48 (words b 16) = W:=⟨_,rfl⟩
 have hW64:W.length = 64:=by rw [<- hW,ra,gA]
 rw [hW] at hQ
 obtain ⟨fin,hfin⟩:∃ f,xG ni W s = f:=⟨_,rfl⟩
 rw [hfin] at hQ
 intro i1 f1
 have s1:=(Sp.nil G).row f1 (.agg (fh s))
 intro i3 f3
 have s3:=s1.row f3 (.agg (fh (List.replicate 8 0)))
 refine dv.use fun G6 c6=>?_
 have s6:=s3.tmp c6
 intro i7 f7
 have s7:=s6.row f7 (.agg (fh (List.replicate 64 0)))
 rw [rr (by simp) (ws':=ni) rfl (ar.own (i:=0) s7 rfl),iI]
 have s9:=Sp.setRow s7 (j:=0) rfl (.agg (fh ni))
 intro i10 f10
 have s11:Sp [] G [ar i10 (.agg (filled 64 [])),ar i7 (.agg (fh ni)),ar i3 (.agg (fh (List.replicate 8 0))),ar i1 (.agg (fh s))] _:=s9.row f10 (.agg (fh (List.replicate 64 0)))
 revert s11
 generalize ah.upd _ i10 (.own (.agg (fh (List.replicate 64 0)))) = G11
 intro s11 R12 hR12
 have loop1:∀ (n i:Nat) (G':ah),16 - i = n -> i ≤ 16 -> Sp [] G [ar i10 (.agg (filled 64 (words b i))),ar i7 (.agg (fh ni)),ar i3 (.agg (fh (List.replicate 8 0))),ar i1 (.agg (fh s))] G' ->
   R12 [v,.int .i64 (at_:Int),.ptr i1 [] 0,.ptr i3 [] 0,.ptr i7 [] 0,.ptr i10 [] 0,.int .i64 (i:Int)] G':=by
  intro n
  induction n with
  | zero=>
   intro i G' hn hi hs
   have:i = 16:=by omega
   subst this
   refine hR12 _ _ _ _ _ _ _ _ ?_
   rw [aH,aa,aE]
   refine ⟨fun h=>absurd h (by decide),fun _=>?_⟩
   intro R48 hR48
   have loop2:∀ (n:Nat) (ws:List Nat) (G':ah),64 - ws.length = n -> 16 ≤ ws.length -> ws.length ≤ 64 -> sched n ws = W -> Sp [] G [ar i10 (.agg (filled 64 ws)),ar i7 (.agg (fh ni)),ar i3 (.agg (fh (List.replicate 8 0))),ar i1 (.agg (fh s))] G' ->
     R48 [.ptr i1 [] 0,.ptr i3 [] 0,.ptr i7 [] 0,.ptr i10 [] 0,.int .i64 (ws.length:Int)] G':=by
    intro n
    induction n with
    | zero=>
     intro ws G' hn h16 h64 he hs
     have hl:ws.length = 64:=by omega
     have he:ws = W:=he
     subst he
     rw [w8 hl] at hs
     refine hR48 _ _ _ _ _ _ ?_
     rw [aH,aa,aE]
     refine ⟨fun h=>absurd h (by omega),fun _=>?_⟩
     rw [mV hs8 (ar.own (i:=3) hs rfl),aa]
     intro i89 f89
     have s90:=hs.row f89 (.agg (fh (List.replicate 8 0)))
     rw [lQ (by simp) hs8 (ar.own (i:=0) s90 rfl),iI]
     have s91:Sp [] G [ar i89 (.agg (fh s)),ar i10 (.agg (fh ws)),ar i7 (.agg (fh ni)),ar i3 (.agg (fh (List.replicate 8 0))),ar i1 (.agg (fh s))] _:=Sp.setRow s90 (j:=0) rfl (.agg (fh s))
     revert s91
     generalize ah.upd _ i89 (.own (.agg (fh s))) = G91
     intro s91 R92 hR92
     have loop3:∀ (n t:Nat) (r:List Nat) (G':ah),64 - t = n -> t ≤ 64 -> r.length = 8 -> xG (ni.drop t) (ws.drop t) r = fin -> Sp [] G [ar i89 (.agg (fh r)),ar i10 (.agg (fh ws)),ar i7 (.agg (fh ni)),ar i3 (.agg (fh (List.replicate 8 0))),ar i1 (.agg (fh s))] G' ->
       R92 [.ptr i1 [] 0,.ptr i3 [] 0,.ptr i7 [] 0,.ptr i10 [] 0,.ptr i89 [] 0,.int .i64 (t:Int)] G':=by
      intro n
      induction n with
      | zero=>
       intro t r G' hn ht hr8 he h
       have:t = 64:=by omega
       subst this
       refine hR92 _ _ _ _ _ _ _ ?_
       rw [aH,aa,aE]
       refine ⟨fun h=>absurd h (by decide),fun _=>?_⟩
       have he:r = fin:=by
        rw [List.drop_of_length_le (by rw [uR]; omega)] at he
        exact he
       subst he
       intro R172 hR172
       refine DF (p:=0) (q:=4) (x3:=.ptr i3 [] 0) hs8 hr8 (by simp) (by decide) (ps:=[ar i89 (.agg (fh r)),ar i10 (.agg (fh ws)),ar i7 (.agg (fh ni)),ar i3 (.agg (fh (List.replicate 8 0))),ar i1 (.agg (fh s))]) rfl R172 _ hR172 h fun G9 h9=>?_
       have hz:(List.zipWith mH r s).length = 8:=by rw [List.length_zipWith,hr8,hs8]; rfl
       rw [mV hz (ar.own (i:=0) h9 rfl),aa,lQ (by simp) hz (ar.own (i:=3) h9 rfl),iI,mV hz (ah.fc _ _ _),aa]
       exact hQ _ (Sp.setRow h9 (j:=3) rfl (.agg (fh (List.zipWith mH r s)))).ch
      | succ n ih=>
       intro t r G' hn ht hr8 he h
       obtain ⟨a,b,c,d,e,f,g,k,rfl⟩:=KL hr8
       have ht64:t < 64:=by omega
       obtain ⟨w,hw⟩:∃ w,ws[t]? = some w:=⟨_,List.getElem?_eq_getElem (by omega)⟩
       obtain ⟨q,hq⟩:∃ q,ni[t]? = some q:=⟨_,List.getElem?_eq_getElem (by rw [uR]; omega)⟩
       have gr:=ar.own (i:=0) h rfl
       have gw:=ar.own (i:=1) h rfl
       have gc:=ar.own (i:=2) h rfl
       have L0:=gx (j:=0) gr rfl
       have L1:=gx (j:=1) gr rfl
       have L2:=gx (j:=2) gr rfl
       have L3:=gx (j:=3) gr rfl
       have L4:=gx (j:=4) gr rfl
       have L5:=gx (j:=5) gr rfl
       have L6:=gx (j:=6) gr rfl
       have L7:=gx (j:=7) gr rfl
       have LW:=gx gw hw
       have LK:=gx gc hq
       have A0:=jt (i:=i89) (m:=0) (j:=0) rfl (by omega)
       have A1:=jt (i:=i89) (m:=1) (j:=1) rfl (by omega)
       have A2:=jt (i:=i89) (m:=2) (j:=2) rfl (by omega)
       have A3:=jt (i:=i89) (m:=3) (j:=3) rfl (by omega)
       have A4:=jt (i:=i89) (m:=4) (j:=4) rfl (by omega)
       have A5:=jt (i:=i89) (m:=5) (j:=5) rfl (by omega)
       have A6:=jt (i:=i89) (m:=6) (j:=6) rfl (by omega)
       have A7:=jt (i:=i89) (m:=7) (j:=7) rfl (by omega)
       have AW:=tc (i:=i10) (m:=(t:Int)) rfl ht64
       have AK:=tc (i:=i7) (m:=(t:Int)) rfl ht64
       refine hR92 _ _ _ _ _ _ _ ?_
       rw [aH,aa,aE]
       refine ⟨fun _=>?_,fun h=>absurd (by omega) h⟩
       simp -zeta only [A0,A1,A2,A3,A4,A5,A6,A7,AW,AK,Ck,aa,L0,L1,L2,L3,L4,L5,L6,L7,LW,LK,u32_and,u32_xor,sw,mq]
       refine bF.use (r:=6) (by omega) (by omega) (by omega) ⟨⟨LW,LK,L6,L5,L7,trivial⟩,?_⟩
       refine bF.use (r:=11) (by omega) (by omega) (by omega) ⟨⟨LW,LK,L6,L5,L7,trivial⟩,?_⟩
       rw [u32_xor,aa]
       refine bF.use (r:=25) (by omega) (by omega) (by omega) ⟨⟨LW,LK,L6,L5,L7,trivial⟩,?_⟩
       simp -zeta only [AW,AK,aa,L0,L1,L2,L3,L4,L5,L6,L7,LW,LK,u32_and,u32_xor,sw,mq]
       refine bF.use (r:=2) (by omega) (by omega) (by omega) ⟨⟨L2,L1,L2,L1,trivial⟩,?_⟩
       refine bF.use (r:=13) (by omega) (by omega) (by omega) ⟨⟨L2,L1,L2,L1,trivial⟩,?_⟩
       rw [u32_xor,aa]
       refine bF.use (r:=22) (by omega) (by omega) (by omega) ⟨⟨L2,L1,L2,L1,trivial⟩,?_⟩
       simp -zeta only [aa,L0,L1,L2,L3,L4,L5,L6,L7,u32_and,u32_xor,sw,mq]
       have hnext:(rnd q w [a,b,c,d,e,f,g,k]).length = 8:=rfl
       refine ae (v:=.agg (fh (rnd q w [a,b,c,d,e,f,g,k]))) rfl ?_
       rw [lQ hr8 hnext gr,iI,wi,aa,i64_in (by omega) (by omega)]
       refine ih (t + 1) _ _ (by omega) (by omega) hnext ?_ (Sp.setRow h (j:=0) rfl _)
       rw [rp hq,rp hw,xG] at he
       exact he
     exact loop3 64 0 s G91 rfl (by omega) hs8 hfin s91
    | succ n ih=>
     intro ws G' hn h16 h64 he hs
     have hl:ws.length < 64:=by omega
     have g3:=ar.own (i:=0) hs rfl
     have ad:∀ {m:Int} {j:Nat},m = (j:Int) -> j < 64 -> aL T bT (.ptr i10 [] 0) (.int .i64 m) = some (.ptr i10 [j] j):=fun hm hj=>pH iM rfl jS rfl hm hj
     have ld:∀ {j:Nat},j < ws.length -> lq T G' az (.ptr i10 [j] j) = some (.int .u32 (ws.getD j 0:Nat)):=fun hj=>vf jS g3 (na _ _) (zl hj) rfl
     have l7:=ld (j:=ws.length - 7) (by omega)
     have l16:=ld (j:=ws.length - 16) (by omega)
     refine hR48 _ _ _ _ _ _ ?_
     rw [aH,aa,aE]
     refine ⟨fun _=>?_,fun h=>absurd (by omega) h⟩
     rw [bS,aa,i64_in (by omega) (by omega),ad (j:=ws.length - 15) (by omega) (by omega),aa,ld (by omega),aa]
     rw [bS,aa,i64_in (by omega) (by omega),ad (j:=ws.length - 2) (by omega) (by omega),aa,ld (by omega),aa]
     rw [bS,aa,i64_in (by omega) (by omega),ad (j:=ws.length - 16) (by omega) (by omega),aa,l16,aa]
     rw [qO (k:=3) (n:=3) rfl (by omega),aa]
     rw [bS,aa,i64_in (by omega) (by omega),ad (j:=ws.length - 7) (by omega) (by omega),aa,l7,aa]
     rw [qO (k:=10) (n:=10) rfl (by omega),aa]
     refine bF.use (r:=7) (by omega) (by omega) (by omega) ⟨⟨l7,l16,trivial⟩,?_⟩
     refine bF.use (r:=18) (by omega) (by omega) (by omega) ⟨⟨l7,l16,trivial⟩,?_⟩
     rw [u32_xor,aa,u32_xor,aa,mq,aa,mq,aa]
     refine bF.use (r:=17) (by omega) (by omega) (by omega) ⟨⟨l7,l16,trivial⟩,?_⟩
     refine bF.use (r:=19) (by omega) (by omega) (by omega) ⟨⟨l7,l16,trivial⟩,?_⟩
     rw [u32_xor,aa,u32_xor,aa,mq,aa]
     rw [ad (j:=ws.length) rfl hl,aa]
     refine fK (sZ jS g3 (na _ _) (pU hl) rfl rfl rfl) ?_
     rw [wi,aa,i64_in (by omega) (by omega),rn hl]
     have key:=ih (ws ++ [Ar ws]) (G'.upd i10 (.own (.agg (filled 64 (ws ++ [Ar ws]))))) (by simp; omega) (by simp; omega) (by simp; omega) he (Sp.setRow hs (j:=0) rfl _)
     rw [List.length_append] at key
     exact key
   have:=loop2 48 (words b 16) G' (by rw [gA]) (by rw [gA]; omega) (by rw [gA]; omega) hW hs
   rwa [gA] at this
  | succ n ih=>
   intro i G' hn hi hs
   have hi16:i < 16:=by omega
   have hp':=hp.ch hs.ch
   refine hR12 _ _ _ _ _ _ _ _ ?_
   rw [aH,aa,aE]
   refine ⟨fun _=>?_,fun h=>absurd (by omega) h⟩
   obtain ⟨a0,u0,w0⟩:=FQ (j:=at_ + 4 * i) (m:=(at_:Int) + 4 * (i:Int)) hp' (by omega) (by omega)
   obtain ⟨a1,u1,w1⟩:=FQ (j:=at_ + (4 * i + 1)) (m:=(at_:Int) + 4 * (i:Int) + 1) hp' (by omega) (by omega)
   obtain ⟨a2,u2,w2⟩:=FQ (j:=at_ + (4 * i + 2)) (m:=(at_:Int) + 4 * (i:Int) + 2) hp' (by omega) (by omega)
   obtain ⟨a3,u3,w3⟩:=FQ (j:=at_ + (4 * i + 3)) (m:=(at_:Int) + 4 * (i:Int) + 3) hp' (by omega) (by omega)
   rw [jL,aa,i64_in (by omega) (by omega),wi,aa,i64_in (by omega) (by omega),u0,aa,w0,aa,qN,aa,sv (k:=24) (n:=24) rfl (by omega),aa]
   rw [wi,aa,i64_in (by omega) (by omega),u1,aa,w1,aa,qN,aa,sv (k:=16) (n:=16) rfl (by omega),aa,u32_or,aa]
   rw [wi,aa,i64_in (by omega) (by omega),u2,aa,w2,aa,qN,aa,sv (k:=8) (n:=8) rfl (by omega),aa,u32_or,aa]
   rw [wi,aa,i64_in (by omega) (by omega),u3,aa,w3,aa,qN,aa,u32_or,aa]
   rw [K5 (UInt8.toNat_lt _) (UInt8.toNat_lt _) (UInt8.toNat_lt _) (UInt8.toNat_lt _)]
   have hword:((p[at_ + 4 * i].toNat * 256 + p[at_ + (4 * i + 1)].toNat) * 256 + p[at_ + (4 * i + 2)].toNat) * 256 + p[at_ + (4 * i + 3)].toNat = word b i:=by
    have e4:(b.drop (4 * i)).take 4 = [b[4 * i],b[4 * i + 1],b[4 * i + 2],b[4 * i + 3]]:=by
     rw [List.drop_eq_getElem_cons (by omega),List.drop_eq_getElem_cons (by omega),List.drop_eq_getElem_cons (by omega),List.drop_eq_getElem_cons (by omega)]
     rfl
    rw [word,e4,hbj _ (by omega),hbj _ (by omega),hbj _ (by omega),hbj _ (by omega)]
    simp [nG]
   rw [hword]
   have hwl:=gA b i
   have ad:aL T bT (.ptr i10 [] 0) (.int .i64 (i:Int)) = some (.ptr i10 [i] i):=pH iM rfl jS rfl rfl (by omega)
   have hnx:=pU (n:=64) (ws:=words b i) (by omega)
   have hst:=rn (n:=64) (ws:=words b i) (x:=word b i) (by omega)
   rw [hwl] at hnx hst
   rw [ad,aa]
   refine fK (sZ jS (ar.own (i:=0) hs rfl) (na _ _) hnx rfl rfl rfl) ?_
   rw [wi,aa,i64_in (by omega) (by omega),hst,<- yb]
   exact ih (i + 1) _ (by omega) (by omega) (Sp.setRow hs (j:=0) rfl _)
 exact loop1 16 0 G11 rfl (by omega) s11
end
end Go.Esc.M
namespace Go.Esc.M
open Go Go.Esc
def wM (x:List UInt8 × Int):ag:=.tuple [.agg (x.1.map u8v),.int .i64 x.2]
theorem hi0 (x:List UInt8 × Int):aW (wM x) 0 = some (.agg (x.1.map u8v)):=rfl
theorem hi1 (x:List UInt8 × Int):aW (wM x) 1 = some (.int .i64 x.2):=rfl
theorem Ax {a b:List UInt8} (ha:a.length = 32) (hb:b.length = 32):aw T .eql aj (.agg (a.map u8v)) (.agg (b.map u8v)) = some (.bool (decide (a = b))):=zX cd rfl dz rfl rfl ha hb
theorem GJ {a b:List UInt8} (ha:a.length = 32) (hb:b.length = 32):aw T .neq aj (.agg (a.map u8v)) (.agg (b.map u8v)) = some (.bool (!decide (a = b))):=zW cd rfl dz rfl rfl ha hb
theorem m9:bk T aj [] = some (.agg ((List.replicate 32 (0:UInt8)).map u8v)):=rfl
theorem Ey {h:List UInt8} (hl:h.length = 32):fa fE (.agg (h.map u8v)) = true:=by simp [fa,sz,gv (ji h),hl,fE,ag.isAgg,j4.isAgg]
theorem LC {h:List UInt8} (hl:h.length = 32):sz cI = sz (.agg (h.map u8v)):=by rw [kM,sz,sz,gv (ji h),gv (ji _)]; simp [hl]
theorem Le (h:List UInt8):okv (.agg (h.map u8v)) = true:=by simp [okv,jx]
end Go.Esc.M
namespace Go.Esc.M
open Go Go.Esc
section
variable {G:ah} {Q:ag -> ah -> Prop}
theorem JS {F0:List AId} {G0:ah} {ps:List LP} {s:ag} {l x:List UInt8} {i:Nat} {K:ag -> ah -> Prop} (hs:Sp F0 G0 ps G) (hi:ps[i]? = some (bj 1 s (l.map u8v))) (hl:l.length + x.length ≤ 140737488355328)
  (hK:∀ s' G',Sp F0 G0 (ps.set i (bj 1 s' ((l ++ x).map u8v))) G' -> K s' G'):cc T G aP bH s (.str x) K:=by
 obtain ⟨F,ho,_⟩:=hs.get hi
 refine q6 (T:=T) (e:=cg) (si:=fS) (ie:=fY) (vs:=x.map u8v) fu rfl dz rfl (by decide) fZ (.inl rfl) ho (by simp [fT,fY,u8v,Function.comp_def]) (ji _) (jx _) ?_ fun s' G2 ho2 hk=>hK s' G2 ?_
 ·simp only [List.length_map,fY]
  omega
 ·refine hs.call hi (bj 1 s' ((l ++ x).map u8v)) fun F h k=>?_
  obtain ⟨_,rfl⟩:=h
  exact k _ _ ⟨by rw [List.map_append]; exact ho2,rfl⟩ hk.ch
theorem Sp.El {F0:List AId} {G0:ah} {ps:List LP} (hs:Sp F0 G0 ps G) (n:Nat):Sp F0 G0 (bj n .nilSlice [] :: ps) G:=hs.new (p:=bj n .nilSlice []) ⟨.inl ⟨rfl,rfl⟩,rfl⟩ (Ch.refl _ _)
theorem dw.use {s:List UInt8} (hl:s.length ≤ 140737488355000) (hQ:∀ v G',Sp [] G [bj 1 v ((pad s).map u8v)] G' -> Q v G'):al P dw.n [.str s] G Q:=by
 refine dw.sound ?_
 unfold dw.S
 refine JS (i:=0) (l:=[]) (Sp.El (Sp.nil G) 1) rfl (by simp; omega) fun v1 G2 s2=>?_
 refine zd (i:=0) (b:=128) s2 rfl (by simp; omega) fun v5 G6 s6=>?_
 intro R7 hR7
 obtain ⟨zt,hzt⟩:∃ zt,zt = (119 - s.length % 64) % 64:=⟨_,rfl⟩
 have loop1:∀ (n z:Nat) (pd:ag) (G':ah),zt - z = n -> z ≤ zt -> Sp [] G [bj 1 pd ((s ++ (128:UInt8) :: List.replicate z 0).map u8v)] G' -> R7 [.str s,pd] G':=by
  intro n
  induction n with
  | zero=>
   intro z pd G' hn hz hs
   have:z = zt:=by omega
   subst this
   obtain ⟨F,ho,_⟩:=hs.get (i:=0) rfl
   refine hR7 _ _ _ ?_
   have hlz:(s ++ (128:UInt8) :: List.replicate z 0).length = s.length + (z + 1):=by simp
   rw [sM ho,aa,hlz,qg _ _ _ _ _ (by decide),aa]
   have hm:((s.length + (z + 1):Nat):Int).tmod 64 = 56:=by
    rw [Int.tmod_eq_emod_of_nonneg (by omega)]
    omega
   rw [hm,dy,aa,fg]
   refine ⟨fun h=>absurd rfl h,fun _=>?_⟩
   intro R18 hR18
   have loop2:∀ (m:Nat) (bs:List UInt8) (pd:ag) (G':ah),m ≤ 8 -> bs ++ bytesBE m (8 * s.length) = pad s -> Sp [] G [bj 1 pd (bs.map u8v)] G' -> R18 [.str s,pd,.int .i64 ((m:Int) - 1)] G':=by
    intro m
    induction m with
    | zero=>
     intro bs pd G' hm he hs
     rw [bytesBE,List.append_nil] at he
     subst he
     refine hR18 _ _ _ _ ?_
     rw [gq,aa,aE]
     refine ⟨fun h=>absurd h (by decide),fun _=>?_⟩
     exact hQ _ _ hs
    | succ m ih=>
     intro bs pd G' hm he hs
     have ei:((m + 1:Nat):Int) - 1 = (m:Int):=by omega
     rw [ei]
     refine hR18 _ _ _ _ ?_
     rw [gq,aa,aE]
     refine ⟨fun _=>?_,fun h=>absurd (by omega) h⟩
     show wv (some (.int .i64 (s.length:Nat))) _
     rw [aa,jL,aa,i64_in (by omega) (by omega),jL,aa,i64_in (by omega) (by omega)]
     have e8:(8:Int) * (s.length:Nat) = ((8 * s.length:Nat):Int):=by omega
     rw [e8,JA (m:=m) (by omega) (by omega),aa,iF hO dz rfl,aa,ya]
     have eb:(ag.int .u8 (((8 * s.length / 2 ^ (8 * m):Nat):Int) % 256)) = u8v (UInt8.ofNat (8 * s.length / 2 ^ (8 * m))):=by rw [lM]; rfl
     rw [eb]
     have hbl':bs.length + (m + 1) ≤ s.length + 72:=by
      have h1:=congrArg List.length he
      have h2:=ua s
      rw [List.length_append,length_bytesBE] at h1
      omega
     refine zd (i:=0) hs rfl (by omega) fun s' G9 s9=>?_
     rw [bS,aa,i64_in (by omega) (by omega)]
     refine ih _ s' G9 (by omega) ?_ s9
     rw [bytesBE] at he
     rw [List.append_assoc,List.singleton_append]
     exact he
   exact loop2 8 (s ++ (128:UInt8) :: List.replicate z 0) pd G' (by omega) (by rw [pad,<- hzt]; simp) hs
  | succ n ih=>
   intro z pd G' hn hz hs
   obtain ⟨F,ho,_⟩:=hs.get (i:=0) rfl
   refine hR7 _ _ _ ?_
   have hlz:(s ++ (128:UInt8) :: List.replicate z 0).length = s.length + (z + 1):=by simp
   rw [sM ho,aa,hlz,qg _ _ _ _ _ (by decide),aa]
   have hm:((s.length + (z + 1):Nat):Int).tmod 64 ≠ 56:=by
    rw [Int.tmod_eq_emod_of_nonneg (by omega)]
    omega
   rw [dy,aa,fg]
   refine ⟨fun _=>?_,fun h=>absurd h hm⟩
   refine zd (i:=0) (b:=0) hs rfl (by rw [hlz]; omega) fun s' G9 s9=>?_
   refine ih (z + 1) s' G9 (by omega) (by omega) ?_
   have:s ++ (128:UInt8) :: List.replicate (z + 1) 0 = (s ++ (128:UInt8) :: List.replicate z 0) ++ [0]:=by rw [List.replicate_succ']; simp
   rw [this]
   exact s9
 exact loop1 zt 0 v5 G6 rfl (by omega) s6
theorem cK.use {s:List UInt8} (hl:s.length ≤ 140737488355000) (hQ:∀ G',Ch [] G [] G' -> Q (.agg ((sha s).map u8v)) G'):al P cK.n [.str s] G Q:=by
 refine cK.sound ?_
 unfold cK.S
 rw [kM]
 unfold sha at hQ
 obtain ⟨D,hD⟩:∃ D,chain ((pad s).length / 64) zD (pad s) = D:=⟨_,rfl⟩
 rw [hD] at hQ
 have hD8:D.length = 8:=by rw [<- hD]; exact rb _ _ rfl
 have hp:=ua s
 intro i1 f1
 have s1:=(Sp.nil G).row f1 (.agg ((List.replicate 32 (0:UInt8)).map u8v))
 refine dw.use hl fun v3 G4 s4=>?_
 obtain ⟨F4,⟨h4,_⟩,c4⟩:=s4.out
 have s4:=s1.new (p:=bj 1 v3 ((pad s).map u8v)) (F':=F4) ⟨h4,by assumption⟩ c4
 refine ae (v:=.agg (fh zD)) (by kernel_rfl) ?_
 rw [z8]
 intro i6 f6
 have s7:=s4.row f6 (.agg (fh (List.replicate 8 0)))
 rw [lQ (by simp) (ws':=zD) rfl (ar.own (i:=0) s7 rfl),iI]
 have s8:=Sp.setRow s7 (j:=0) rfl (.agg (fh zD))
 intro R9 hR9
 have loop:∀ (n at_:Nat) (h:List Nat) (G':ah),(pad s).length = at_ + 64 * n -> h.length = 8 -> chain n h ((pad s).drop at_) = D ->
   Sp [] G [ar i6 (.agg (fh h)),bj 1 v3 ((pad s).map u8v),ar i1 (.agg ((List.replicate 32 (0:UInt8)).map u8v))] G' -> R9 [.ptr i1 [] 0,v3,.ptr i6 [] 0,.int .i64 (at_:Int)] G':=by
  intro n
  induction n with
  | zero=>
   intro at_ h G' hm hh he hs
   have he:h = D:=he
   subst he
   obtain ⟨F,ho,_⟩:=hs.get (i:=1) rfl
   refine hR9 _ _ _ _ _ ?_
   rw [sM ho,aa,aH,aa,aE]
   refine ⟨fun h=>absurd h (by omega),fun _=>?_⟩
   intro i22 f22
   have s23:=hs.row f22 (.agg ((List.replicate 32 (0:UInt8)).map u8v))
   intro R24 hR24
   refine xf (p:=0) (q:=1) (x0:=.ptr i1 [] 0) hh (by simp) (by decide) (ps:=[ar i22 (.agg ((List.replicate 32 (0:UInt8)).map u8v)),ar i6 (.agg (fh h)),bj 1 v3 ((pad s).map u8v),ar i1 (.agg ((List.replicate 32 (0:UInt8)).map u8v))]) rfl R24 _ hR24 s23 fun G9 h9=>?_
   have hz:=od h
   rw [bE hz (ar.own (i:=0) h9 rfl),aa,gg (by simp) hz (ar.own (i:=3) h9 rfl),iI,bE hz (ah.fc _ _ _),aa]
   exact hQ _ (Sp.setRow h9 (j:=3) rfl (.agg ((pB h).map u8v))).ch
  | succ n ih=>
   intro at_ h G' hm hh he hs
   obtain ⟨F,ho,_⟩:=hs.get (i:=1) rfl
   refine hR9 _ _ _ _ _ ?_
   rw [sM ho,aa,aH,aa,aE]
   refine ⟨fun _=>?_,fun h=>absurd (by omega) h⟩
   rw [mV hh (ar.own (i:=0) hs rfl),aa]
   refine dZ.use hh ho.is (by omega) (by omega) fun G9 c9=>?_
   have s9:=hs.tmp c9
   have hc8:(compress h (((pad s).drop at_).take 64)).length = 8:=oJ hh
   rw [lQ hh hc8 (ar.own (i:=0) s9 rfl),iI,wi,aa,i64_in (by omega) (by omega)]
   refine ih (at_ + 64) _ _ (by omega) hc8 ?_ (Sp.setRow s9 (j:=0) rfl _)
   rw [<- List.drop_drop]
   exact he
 exact loop ((pad s).length / 64) 0 zD _ (by omega) rfl hD s8
theorem eJ.use {key:List UInt8} {c:UInt8} (hk:key.length = 32) (hQ:∀ G',Ch [] G [] G' -> Q (.str (kB key c)) G'):al P eJ.n [.agg (key.map u8v),u8v c] G Q:=by
 refine eJ.sound ?_
 unfold eJ.S
 intro i1 f1
 have s1:=Sp.El ((Sp.nil G).row f1 (.agg (key.map u8v))) 1
 intro R3 hR3
 have hX:=mu hk c
 have loop:∀ (n j:Nat) (v:ag) (G':ah),64 - j = n -> j ≤ 64 -> Sp [] G [bj 1 v (((kB key c).take j).map u8v),ar i1 (.agg (key.map u8v))] G' -> R3 [u8v c,.ptr i1 [] 0,v,.int .i64 (j:Int)] G':=by
  intro n
  induction n with
  | zero=>
   intro j v G' hn hj hs
   have:j = 64:=by omega
   subst this
   obtain ⟨F,ho,_⟩:=hs.get (i:=0) rfl
   refine hR3 _ _ _ _ _ ?_
   rw [aH,aa,aE]
   refine ⟨fun h=>absurd h (by decide),fun _=>?_⟩
   rw [List.take_of_length_le (by omega)] at ho
   rw [jZ fu rfl dz rfl fZ rfl ho.is,aa]
   exact hQ _ hs.ch
  | succ n ih=>
   intro j v G' hn hj hs
   have hj64:j < 64:=by omega
   refine hR3 _ _ _ _ _ ?_
   rw [aH,aa,aE]
   refine ⟨fun _=>?_,fun h=>absurd (by omega) h⟩
   rw [aH,aa,aE]
   have next:∀ (b:UInt8),b = (kB key c)[j]'(by omega) -> bh T aP 1 [(0,u8v b)] G' fun v21 G22=>cc T G22 aP aP v v21 fun v23 G24=>wv (aw T .add au (.int .i64 (j:Int)) (.int .i64 1)) fun v33=>R3 [u8v c,.ptr i1 [] 0,v23,v33] G24:=by
    intro b hb
    refine zd (i:=0) hs rfl (by simp; omega) fun s' G9 s9=>?_
    rw [wi,aa,i64_in (by omega) (by omega)]
    refine ih (j + 1) s' G9 (by omega) (by omega) ?_
    rw [List.take_succ_eq_append_getElem (by omega),<- hb]
    exact s9
   refine ⟨fun h32=>?_,fun h32=>?_⟩
   ·rw [mD (by omega),aa,o4 (by omega) (ar.own (i:=1) hs rfl),aa,u8_xor,aa]
    refine next _ ?_
    simp only [kB,List.getElem_map]
    rw [List.getElem_append_left (by omega)]
   ·have e0:aw T .xor cg (.int .u8 0) (u8v c) = some (u8v (0 ^^^ c)):=u8_xor 0 c
    rw [e0,aa]
    refine next _ ?_
    simp only [kB,List.getElem_map]
    rw [List.getElem_append_right (by omega),List.getElem_replicate]
 exact loop 64 0 .nilSlice _ rfl (by omega) s1
theorem ec.use {h:List UInt8} (hk:h.length = 32) (hQ:∀ G',Ch [] G [] G' -> Q (.str h) G'):al P ec.n [.agg (h.map u8v)] G Q:=by
 refine ec.sound ?_
 unfold ec.S
 intro i1 f1
 have s1:=Sp.El ((Sp.nil G).row f1 (.agg (h.map u8v))) 1
 intro R3 hR3
 have loop:∀ (n j:Nat) (v:ag) (G':ah),32 - j = n -> j ≤ 32 -> Sp [] G [bj 1 v ((h.take j).map u8v),ar i1 (.agg (h.map u8v))] G' -> R3 [.ptr i1 [] 0,v,.int .i64 (j:Int)] G':=by
  intro n
  induction n with
  | zero=>
   intro j v G' hn hj hs
   have:j = 32:=by omega
   subst this
   obtain ⟨F,ho,_⟩:=hs.get (i:=0) rfl
   refine hR3 _ _ _ _ ?_
   rw [aH,aa,aE]
   refine ⟨fun h=>absurd h (by decide),fun _=>?_⟩
   rw [List.take_of_length_le (by omega)] at ho
   rw [jZ fu rfl dz rfl fZ rfl ho.is,aa]
   exact hQ _ hs.ch
  | succ n ih=>
   intro j v G' hn hj hs
   refine hR3 _ _ _ _ ?_
   rw [aH,aa,aE]
   refine ⟨fun _=>?_,fun h=>absurd (by omega) h⟩
   rw [mD (by omega),aa,o4 (by omega) (ar.own (i:=1) hs rfl),aa]
   refine zd (i:=0) hs rfl (by simp; omega) fun s' G9 s9=>?_
   rw [wi,aa,i64_in (by omega) (by omega)]
   refine ih (j + 1) s' G9 (by omega) (by omega) ?_
   rw [List.take_succ_eq_append_getElem (by omega)]
   exact s9
 exact loop 32 0 .nilSlice _ rfl (by omega) s1
theorem fx.use {key text:List UInt8} (hk:key.length = 32) (hl:text.length ≤ 140737488354000) (hQ:∀ G',Ch [] G [] G' -> Q (.agg ((mac key text).map u8v)) G'):al P fx.n [.agg (key.map u8v),.str text] G Q:=by
 refine fx.sound ?_
 unfold fx.S
 rw [kM]
 intro i1 f1
 have s1:=(Sp.nil G).row f1 (.agg (key.map u8v))
 intro i3 f3
 have s3:=s1.row f3 (.agg ((List.replicate 32 (0:UInt8)).map u8v))
 have hlo:=mu hk 0x36
 have hlo':=mu hk 0x5c
 rw [bE hk (ar.own (i:=1) s3 rfl),aa,aa]
 refine eJ.use (c:=0x5c) hk fun G8 c8=>?_
 have s8:=s3.tmp c8
 refine ⟨⟨bE hk (ar.own (i:=1) s8 rfl),trivial⟩,?_⟩
 refine eJ.use (c:=0x36) hk fun G10 c10=>?_
 have s10:=s8.tmp c10
 rw [sq _ _ (by omega),aa]
 refine cK.use (by simp; omega) fun G13 c13=>?_
 have s13:=s10.tmp c13
 have hs1:=gI (kB key 0x36 ++ text)
 refine ec.use hs1 fun G15 c15=>?_
 have s15:=s13.tmp c15
 rw [sq _ _ (by omega),aa]
 refine cK.use (by simp; omega) fun G18 c18=>?_
 have s18:=s15.tmp c18
 have hm:(mac key text).length = 32:=gI _
 show wg (ax T G18 aj (.ptr i3 [] 0) (.agg ((mac key text).map u8v))) _
 rw [gg (by simp) hm (ar.own (i:=0) s18 rfl),iI,bE hm (ah.fc _ _ _),aa]
 exact hQ _ (Sp.setRow s18 (j:=0) rfl (.agg ((mac key text).map u8v))).ch
theorem eI.use {v:ag} {xs:List (List UInt8)} (hl:fV 1 G v (xs.map .str)) (hN:xs.length ≤ 9223372036854775807) (hlen:xs.flatten.length ≤ 140737488355000) (hQ:∀ G',Ch [] G [] G' -> Q (.agg ((sha xs.flatten).map u8v)) G'):al P eI.n [v] G Q:=by
 refine eI.sound ?_
 unfold eI.S
 rw [kM]
 intro i1 f1
 have s1:=(Sp.nil G).row f1 (.agg ((List.replicate 32 (0:UInt8)).map u8v))
 revert s1
 generalize ah.upd _ i1 _ = G2
 intro s1 R hR
 have hl1:=hl.ch s1.ch
 have hle:∀ j,(xs.take j).flatten.length ≤ xs.flatten.length:=fun j=>by
  conv=>rhs; rw [<- List.take_append_drop j xs,List.flatten_append,List.length_append]
  omega
 have loop:∀ (n j:Nat),xs.length - j = n -> j ≤ xs.length -> R [v,.ptr i1 [] 0,.str (xs.take j).flatten,.int .i64 (j:Int)] G2:=by
  intro n
  induction n with
  | zero=>
   intro j hn hj
   have:j = xs.length:=by omega
   subst this
   refine hR _ _ _ _ _ ?_
   rw [hl1.len (i:=jm) lD rfl,List.length_map,aa,aH,aa,aE]
   refine ⟨fun h=>absurd h (by omega),fun _=>?_⟩
   rw [List.take_length]
   refine cK.use hlen fun G16 c16=>?_
   have s16:=s1.tmp c16
   refine fK (gg (by simp) (gI _) (ar.own (i:=0) s16 rfl)) ?_
   have s17:=Sp.setRow (j:=0) s16 rfl (.agg ((sha xs.flatten).map u8v))
   refine ae (bE (gI _) (ar.own (i:=0) s17 rfl)) ?_
   exact hQ _ s17.ch
  | succ n ih=>
   intro j hn hj
   obtain ⟨x,hx⟩:∃ x,xs[j]? = some x:=⟨_,List.getElem?_eq_getElem (by omega)⟩
   obtain ⟨a,ha,hla⟩:=hl1.at_ (k:=.i64) (j:=j) (i:=jm) (ie:=iO) (T:=T) (t:=im) (e:=bH) (c:=.str x) lD rfl fZ (by rw [List.getElem?_map,hx]; rfl) rfl
   have et:(xs.take (j + 1)).flatten = (xs.take j).flatten ++ x:=by rw [List.take_add_one,hx]; simp
   have h1:=hle (j + 1)
   rw [et,List.length_append] at h1
   refine hR _ _ _ _ _ ?_
   rw [hl1.len (i:=jm) lD rfl,List.length_map,aa,aH,aa,aE]
   refine ⟨fun _=>?_,fun h=>absurd (by omega) h⟩
   rw [ha,aa,hla,aa,sq _ _ (by omega),aa,wi,aa,i64_in (by omega) (by omega),<- et]
   exact ih (j + 1) (by omega) (by omega)
 exact loop _ 0 rfl (by omega)
end
end Go.Esc.M
namespace Go.Esc.M
open Go Go.Esc
def nN (p i:Nat):Nat:=p / 2 ^ i % 2
def lev:Nat -> Nat -> Nat
 | 0,_=>0
 | n + 1,p=>if p % 2 = 1 then 0 else lev n (p / 2) + 1
def level (p:Nat):Nat:=lev 48 p
theorem Iq:∀ n p,lev n p ≤ n
 | 0,_=>Nat.le_refl _
 | n + 1,p=>by
  unfold lev
  split
  ·omega
  ·have:=Iq n (p / 2); omega
theorem Fz:∀ n p,2 ^ lev n p ∣ p
 | 0,p=>by simp [lev]
 | n + 1,p=>by
  unfold lev
  split
  ·simp
  ·rename_i h
   have:=Fz n (p / 2)
   rw [Nat.pow_succ,Nat.mul_comm]
   have h2:p = 2 * (p / 2):=by omega
   rw [h2]
   have e:2 * (p / 2) / 2 = p / 2:=by omega
   rw [e]
   exact Nat.mul_dvd_mul_left 2 this
theorem Fy:∀ n p,lev n p < n -> p / 2 ^ lev n p % 2 = 1
 | 0,p,h=>by omega
 | n + 1,p,h=>by
  unfold lev at h ⊢
  split
  ·rename_i h1; simpa using h1
  ·rename_i h1
   rw [if_neg h1] at h
   have:=Fy n (p / 2) (by omega)
   rwa [Nat.div_div_eq_div_mul,Nat.mul_comm,<- Nat.pow_succ] at this
theorem rZ (p:Nat):level p ≤ 48:=Iq 48 p
theorem Au (p:Nat):2 ^ level p ∣ p:=Fz 48 p
theorem En:level 0 = 48:=by decide
theorem At {p:Nat} (h0:p ≠ 0) (hp:p < 2 ^ 48):level p < 48:=by
 refine Nat.lt_of_le_of_ne (rZ p) fun h=>?_
 have:=Au p
 rw [h] at this
 exact h0 (Nat.eq_zero_of_dvd_of_lt this hp)
theorem Eo {p:Nat} (h0:p ≠ 0) (hp:p < 2 ^ 48):∃ m,p = 2 ^ level p * (2 * m + 1):=by
 have h1:=Fy 48 p (At h0 hp)
 obtain ⟨c,hc⟩:=Au p
 refine ⟨c / 2,?_⟩
 have hpos:0 < 2 ^ level p:=Nat.pow_pos (by decide)
 have h2:p / 2 ^ level p = c:=Nat.div_eq_of_eq_mul_right hpos hc
 have h1':p / 2 ^ level p % 2 = 1:=h1
 rw [h2] at h1'
 have:2 * (c / 2) + 1 = c:=by omega
 rw [this,<- hc]
theorem Ip {p k m:Nat} (hk:k < 48) (h:p = 2 ^ k * (2 * m + 1)):level p = k:=by
 have hodd:∀ n k m,k < n -> lev n (2 ^ k * (2 * m + 1)) = k:=by
  intro n
  induction n with
  | zero=>intro k m h; omega
  | succ n ih=>
   intro k m h
   unfold lev
   cases k with
   | zero=>rw [if_pos (by omega)]
   | succ k=>
    have e:2 ^ (k + 1) * (2 * m + 1) = 2 * (2 ^ k * (2 * m + 1)):=by rw [Nat.pow_succ,Nat.mul_comm (2 ^ k) 2,Nat.mul_assoc]
    rw [e,if_neg (by omega),show 2 * (2 ^ k * (2 * m + 1)) / 2 = 2 ^ k * (2 * m + 1) by omega,ih k m (by omega)]
 rw [h]
 exact hodd 48 k m hk
def qz (h:List UInt8) (b:Nat):List UInt8:=h.set (b / 8) (h.getD (b / 8) 0 ^^^ UInt8.ofNat (2 ^ (b % 8)))
def pM (pl b:Nat) (h:List UInt8):List UInt8:=if nN pl b = 1 then sha (qz h b) else h
def kf (pl:Nat):Nat -> List UInt8 -> List UInt8
 | 0,h=>h
 | k + 1,h=>kf pl k (pM pl k h)
def dn (pl k:Nat):Nat -> List UInt8 -> List UInt8
 | 0,h=>h
 | n + 1,h=>dn pl k n (pM pl (k + n) h)
theorem BI {pl b:Nat} {h:List UInt8} (hl:h.length = 32):(pM pl b h).length = 32:=by
 unfold pM
 split
 ·exact gI _
 ·exact hl
theorem kK {pl:Nat}:∀ (k:Nat) {h:List UInt8},h.length = 32 -> (kf pl k h).length = 32
 | 0,h,hl=>hl
 | k + 1,h,hl=>kK k (BI hl)
theorem FU (p k i:Nat):nN p (k + i) = nN (p / 2 ^ k) i:=by
 unfold nN
 rw [Nat.pow_add,Nat.div_div_eq_div_mul]
def D2:List Int:=[0,1,56,2,57,49,28,3,61,58,42,50,38,29,17,4,62,47,59,36,45,43,51,22,53,39,33,30,24,18,12,5,63,55,48,27,60,41,37,16,46,35,44,21,52,32,23,11,54,26,40,15,34,20,31,10,25,14,19,9,13,8,7,6]
theorem Kz:∀ k:Fin 64,D2[(2 ^ k.val * 0x03f79d71b4ca8b09 % 18446744073709551616) / 288230376151711744]? = some ((k.val:Nat):Int):=by decide +kernel
theorem J7 {k m:Nat} (h:2 ^ k * (2 * m + 1) < 2 ^ 64):(2 ^ k * (2 * m + 1)) &&& (2 ^ 64 - 2 ^ k * (2 * m + 1)) = 2 ^ k:=by
 have hk:0 < 2 ^ k:=Nat.pow_pos (by decide)
 have hk64:k < 64:=by
  refine Nat.lt_of_not_le fun hle=>?_
  have h1:2 ^ 64 ≤ 2 ^ k:=Nat.pow_le_pow_right (by decide) hle
  have h2:2 ^ k ≤ 2 ^ k * (2 * m + 1):=Nat.le_mul_of_pos_right _ (by omega)
  omega
 obtain ⟨y,hy⟩:∃ y,2 ^ k * (2 * m + 1) = y + 1:=⟨2 ^ k * (2 * m + 1) - 1,by
  have:2 ^ k ≤ 2 ^ k * (2 * m + 1):=Nat.le_mul_of_pos_right _ (by omega)
  omega⟩
 have hy2:y = 2 ^ k * (2 * m) + (2 ^ k - 1):=by
  rw [Nat.mul_add] at hy
  omega
 apply Nat.eq_of_testBit_eq
 intro i
 have e1:(2 ^ 64 - 2 ^ k * (2 * m + 1)).testBit i = (decide (i < 64) && !y.testBit i):=by
  rw [hy]
  exact Nat.testBit_two_pow_sub_succ (by omega) i
 have e2:y.testBit i = if i < k then (2 ^ k - 1).testBit i else (2 * m).testBit (i - k):=by
  rw [hy2]
  exact Nat.testBit_two_pow_mul_add _ (by omega) i
 have e3:(2 ^ k * (2 * m + 1)).testBit i = if i < k then false else (2 * m + 1).testBit (i - k):=by
  have:=Nat.testBit_two_pow_mul_add (i:=k) (2 * m + 1) (b:=0) (by omega) i
  rw [Nat.add_zero] at this
  rw [this]
  simp
 rw [Nat.testBit_and,e1,e2,e3,Nat.testBit_two_pow]
 by_cases hik:i < k
 ·rw [if_pos hik,Bool.false_and,decide_eq_false (by omega)]
 ·rw [if_neg hik,if_neg hik]
  by_cases he:i = k
  ·subst he
   rw [Nat.sub_self,decide_eq_true hk64,decide_eq_true rfl]
   simp [Nat.testBit_zero]
  ·rw [decide_eq_false (show ¬ k = i by omega)]
   obtain ⟨j,hj⟩:∃ j,i - k = j + 1:=⟨i - k - 1,by omega⟩
   rw [hj,Nat.testBit_succ,Nat.testBit_succ]
   have d1:(2 * m + 1) / 2 = m:=by omega
   have d2:2 * m / 2 = m:=by omega
   rw [d1,d2]
   cases m.testBit j <;> simp
end Go.Esc.M
namespace Go.Esc.M
open Go Go.Esc
def Tab (G:ah):Prop:=G iQ = some (.ro (Gg D2))
theorem Tab.mono {G G':ah} (h:Tab G) (hle:n6 G G'):Tab G':=hle _ _ h
def okN (n:Int):Bool:=decide (0 ≤ n) && decide (n ≤ 281474976710655)
def pl (n:Int):Nat:=(281474976710655 - n).toNat
theorem BE {n:Int}:okN n = true ↔ 0 ≤ n /\ n ≤ 281474976710655:=by simp [okN]
theorem wR {n:Int} (h:okN n = true):281474976710655 - n = ((pl n:Nat):Int) /\ pl n < 2 ^ 48:=by
 have:=BE.1 h
 unfold pl
 omega
def jD:List UInt8:=List.replicate 32 0
def fH (s:List UInt8) (n:Int):List UInt8 × Int:=bif okN n then (kf (pl n) 48 s,0) else (jD,90)
def oI (n:Int):Int × Int:=bif okN n then ((level (pl n):Nat),0) else (0,90)
def jJ (s:List UInt8) (a b:Int):List UInt8 × Int:=bif okN a && okN b then (if pl a / 2 ^ level (pl a) = pl b / 2 ^ level (pl a) then (kf (pl b) (level (pl a)) s,0) else (jD,5)) else (jD,90)
def Fe (x:Int × Int):ag:=.tuple [.int .i64 x.1,.int .i64 x.2]
theorem ii0 (x:Int × Int):aW (Fe x) 0 = some (.int .i64 x.1):=rfl
theorem ii1 (x:Int × Int):aW (Fe x) 1 = some (.int .i64 x.2):=rfl
theorem u64_and {T:Tbl} {t:TypeId} {a b:Nat} (ha:a < 2 ^ 64) (hb:b < 2 ^ 64):aw T .and t (.int .u64 (a:Int)) (.int .u64 (b:Int)) = some (.int .u64 ((a &&& b:Nat):Int)):=by
 have hbits:IntKind.u64.bits = 64:=rfl
 have e8:∀ x:Nat,(BitVec.ofInt 64 (x:Int)).toNat = x % 2 ^ 64:=fun x=>by rw [BitVec.ofInt_natCast,BitVec.toNat_ofNat]
 rw [rL,qJ,hbits,BitVec.toNat_and,e8,e8,Nat.mod_eq_of_lt ha,Nat.mod_eq_of_lt hb]
 have:a &&& b < 2 ^ 64:=Nat.and_lt_two_pow _ hb
 congr 2
 omega
theorem KK (i c:Nat) (hc:c ≠ 0) (hi:i ≤ 1000000) {t:TypeId} {T:Tbl} {x:Int} (hx:x = (c:Int)):aw T .quo t (.int .i64 (i:Int)) (.int .i64 x) = some (.int .i64 ((i / c:Nat):Int)):=by
 subst hx
 rw [yh _ _ _ _ _ (by omega),yp]
 have:i / c ≤ i:=Nat.div_le_self _ _
 obtain ⟨q,hq⟩:∃ q,q = i / c:=⟨_,rfl⟩
 rw [<- hq] at this ⊢
 rw [i64_in (by omega) (by omega)]
theorem KJ (i c:Nat) (hc:c ≠ 0) {t:TypeId} {T:Tbl} {x:Int} (hx:x = (c:Int)):aw T .rem t (.int .i64 (i:Int)) (.int .i64 x) = some (.int .i64 ((i % c:Nat):Int)):=by
 subst hx
 rw [qg _ _ _ _ _ (by omega),Ac]
theorem KH {p b:Nat} (hb:b ≤ 63) {t:TypeId} {T:Tbl} {kk:IntKind}:aw T .shr t (.int .i64 (p:Int)) (.int kk (b:Int)) = some (.int .i64 ((p / 2 ^ b:Nat):Int)):=by
 rw [l9 _ _ _ _ _ _ (by omega)]
 have h1:min (b:Int).toNat IntKind.i64.bits = b:=by
  have:IntKind.i64.bits = 64:=rfl
  omega
 have h2:((2:Int) ^ b) = ((2 ^ b:Nat):Int):=by simp
 rw [h1,h2,Int.fdiv_eq_ediv_of_nonneg _ (Int.natCast_nonneg _)]
 congr 2
theorem LO (p:Nat) {t:TypeId} {T:Tbl}:aw T .and t (.int .i64 (p:Int)) (.int .i64 1) = some (.int .i64 ((p % 2:Nat):Int)):=by
 have h:=DE (p:Int) 1 (by decide)
 rw [rL]
 have e1:((2 ^ 1 - 1:Nat):Int) = 1:=by decide
 have e2:((2 ^ 1:Nat):Int) = 2:=by decide
 rw [e1,e2] at h
 rw [h]
 congr 2
theorem K9 {b:Nat} (hb:b < 8) {t:TypeId} {T:Tbl} {kk:IntKind}:aw T .shl t (.int .u8 1) (.int kk (b:Int)) = some (u8v (UInt8.ofNat (2 ^ b))):=by
 rw [yg _ _ _ _ _ _ (by omega),ya,lM]
 have h1:min (b:Int).toNat IntKind.u8.bits = b:=by
  have:IntKind.u8.bits = 8:=rfl
  omega
 have h2:((2:Int) ^ b) = ((2 ^ b:Nat):Int):=by simp
 rw [h1,h2,Int.one_mul]
 congr 2
section
variable {F0:List AId} {G0 G:ah} {ps:List LP} {Q:ag -> ah -> Prop}
theorem cC.use {x:Nat} (hx:x < 2 ^ 48) (hT:Tab G) (hQ:Q (.int .i64 ((if x = 0 then 64 else level x:Nat):Int)) G):al P cC.n [.int .u64 (x:Int)] G Q:=by
 refine cC.sound ?_
 unfold cC.S
 rw [bC,aa,aE]
 refine ⟨fun h0=>?_,fun h0=>?_⟩
 ·rw [if_pos (by omega)] at hQ
  exact hQ
 rw [if_neg (by omega)] at hQ
 have hx0:x ≠ 0:=by omega
 obtain ⟨m,hm⟩:=Eo hx0 hx
 have hl:=At hx0 hx
 have hp48:(2:Nat) ^ 48 ≤ 2 ^ 64:=by decide
 have e64:(2:Nat) ^ 64 = 18446744073709551616:=by decide
 rw [E5,aa,qJ]
 have hneg:(0 - (x:Int)) % 18446744073709551616 = ((2 ^ 64 - x:Nat):Int):=by omega
 rw [hneg,u64_and (by omega) (by omega),aa]
 have hand:x &&& (2 ^ 64 - x) = 2 ^ level x:=by
  have:=J7 (k:=level x) (m:=m) (by rw [<- hm]; omega)
  rwa [<- hm] at this
 rw [hand]
 obtain ⟨k,hk⟩:∃ k,k = level x:=⟨_,rfl⟩
 rw [<- hk] at hQ hl ⊢
 have htab:=Kz ⟨k,by omega⟩
 dsimp only at htab
 obtain ⟨idx,hidx⟩:∃ i,i = (2 ^ k * 0x03f79d71b4ca8b09 % 18446744073709551616) / 288230376151711744:=⟨_,rfl⟩
 have hi64:idx < 64:=by rw [hidx]; omega
 rw [<- hidx] at htab
 rw [jL,aa,qJ]
 have hmul:(((2 ^ k:Nat):Int) * 285870213051353865) % 18446744073709551616 = ((2 ^ k * 0x03f79d71b4ca8b09 % 18446744073709551616:Nat):Int):=by omega
 rw [hmul]
 have hshr:aw T .shr jd (.int .u64 ((2 ^ k * 0x03f79d71b4ca8b09 % 18446744073709551616:Nat):Int)) (.int .u64 58) = some (.int .u64 (idx:Int)):=by
  rw [l9 _ _ _ _ _ _ (by decide)]
  have h1:min (58:Int).toNat IntKind.u64.bits = 58:=rfl
  have h2:((2:Int) ^ 58) = ((288230376151711744:Nat):Int):=by decide
  rw [h1,h2,Int.fdiv_eq_ediv_of_nonneg _ (Int.natCast_nonneg _),hidx]
  congr 2
 refine ae hshr ?_
 refine ae (pa (j:=idx) rz rfl dz rfl (by omega)) ?_
 have hld:lq T G cg (.ptr iQ ([] ++ [idx]) (0 + idx * fY.size)) = some (.int .u8 (k:Int)):=by
  have hz:(D2.map (ag.int .u8))[idx]? = some (.int .u8 (k:Int)):=by rw [List.getElem?_map,htab]; rfl
  have hu:uni 1 (D2.map (ag.int .u8)) = true:=by simp [uni,sz]
  have hs:szs ((D2.map (ag.int .u8)).take idx) = idx:=by
   have:=qi hu (j:=idx) (by have:=(List.getElem?_eq_some_iff.1 hz).1; omega)
   rw [this,Nat.mul_one]
  have hT':G iQ = some (.ro (Gg D2)):=hT
  have hsub:mo G (.ptr iQ [idx] idx) = some (.int .u8 (k:Int)):=by
   simp only [mo,hT',kZ,Gg,sub,hs,Nat.le_refl,if_true,hz,Nat.sub_self]
  show lq T G cg (.ptr iQ [idx] (0 + idx * 1)) = _
  rw [Nat.zero_add,Nat.mul_one]
  simp only [lq,hsub,dz]
  rfl
 refine ae hld ?_
 rw [iF dz hO rfl,i64_in (by omega) (by omega),aa]
 exact hQ
theorem gH.use {n:Int} (hQ:Q (.bool (okN n)) G):al P gH.n [.int .i64 n] G Q:=by
 refine gH.sound ?_
 unfold gH.S
 unfold okN at hQ
 rw [gq,aa,aE]
 refine ⟨fun h=>?_,fun h=>by rwa [decide_eq_false h,Bool.false_and] at hQ⟩
 rw [decide_eq_true h,Bool.true_and] at hQ
 rw [jl,aa]
 exact hQ
theorem fU.use {n:Int} (h:okN n = true) (hQ:Q (.int .i64 ((pl n:Nat):Int)) G):al P fU.n [.int .i64 n] G Q:=by
 refine fU.sound ?_
 unfold fU.S
 obtain ⟨h1,h2⟩:=wR h
 have e48:(2:Nat) ^ 48 = 281474976710656:=by decide
 rw [bS,h1,i64_in (by omega) (by omega),aa]
 exact hQ
theorem gZ.use {h:List UInt8} (hl:h.length = 32) (hQ:∀ G',Ch [] G [] G' -> Q (.agg ((sha h).map u8v)) G'):al P gZ.n [.agg (h.map u8v)] G Q:=by
 refine gZ.sound ?_
 unfold gZ.S
 rw [kM]
 intro i1 f1
 have s1:=(Sp.nil G).row f1 (.agg (h.map u8v))
 intro i3 f3
 have s3:=s1.row f3 (.agg ((List.replicate 32 (0:UInt8)).map u8v))
 refine ae oh ?_
 refine ae (jZ fu rfl dz rfl fZ rfl (qV (ar.own (i:=1) s3 rfl) hl)) ?_
 refine B4 (T:=T) (ts:=im) (e:=bH) (si:=jm) (ie:=iO) (l:=[h].map .str) lD rfl fZ rfl rfl rfl rfl (by simp [sz,iO]) (by decide) s3 fun v7 G8 s8=>?_
 refine iK.use (xs:=[h]) (bj.own (i:=0) s8 rfl).cap (by simp) (by simp; omega) fun G10 c10=>?_
 have s10:=s8.tmp c10
 have e1:[h].flatten = h:=by simp
 rw [e1]
 refine fK (gg (hs':=sha h) (by simp) (gI _) (ar.own (i:=1) s10 rfl)) ?_
 have s11:=Sp.setRow (j:=1) s10 rfl (.agg ((sha h).map u8v))
 refine ae (bE (gI _) (ar.own (i:=1) s11 rfl)) ?_
 exact hQ _ s11.ch
theorem FK {h:List UInt8} (hl:h.length = 32) {b:Nat} (hb:b < 48):h.set (b / 8) ((h[b / 8]'(by omega)) ^^^ UInt8.ofNat (2 ^ (b % 8))) = qz h b:=by
 unfold qz
 rw [List.getD_eq_getElem?_getD,List.getElem?_eq_getElem (by omega)]
 rfl
theorem wY {h:List UInt8} (hl:h.length = 32) (b:Nat):(qz h b).length = 32:=by simp [qz,hl]
theorem iG.use {h:List UInt8} {p k:Nat} (hl:h.length = 32) (hp:p < 2 ^ 48) (hk:k ≤ 48) (hQ:∀ G',Ch [] G [] G' -> Q (.agg ((kf p k h).map u8v)) G'):al P iG.n [.agg (h.map u8v),.int .i64 (p:Int),.int .i64 (k:Int)] G Q:=by
 refine iG.sound ?_
 unfold iG.S
 rw [kM]
 intro i1 f1
 have s1:=(Sp.nil G).row f1 (.agg (h.map u8v))
 intro i3 f3
 have s3:=s1.row f3 (.agg ((List.replicate 32 (0:UInt8)).map u8v))
 intro R hR
 have hD:=kK (pl:=p) k hl
 have loop:∀ (r:Nat) (c:List UInt8) (G':ah),r ≤ k -> c.length = 32 -> kf p r c = kf p k h -> Sp [] G [ar i3 (.agg ((List.replicate 32 (0:UInt8)).map u8v)),ar i1 (.agg (c.map u8v))] G' -> R [.int .i64 (p:Int),.int .i64 (k:Int),.ptr i1 [] 0,.ptr i3 [] 0,.int .i64 (k:Int),.int .i64 ((k - r:Nat):Int)] G':=by
  intro r
  induction r with
  | zero=>
   intro c G' hr hc hd s
   have hcD:c = kf p k h:=hd
   subst hcD
   refine hR _ _ _ _ _ _ _ ?_
   rw [aH,aa,decide_eq_false (by omega),aM]
   refine ae (bE hD (ar.own (i:=1) s rfl)) ?_
   refine fK (gg (hs':=kf p k h) (by simp) hD (ar.own (i:=0) s rfl)) ?_
   have s':=Sp.setRow (j:=0) s rfl (.agg ((kf p k h).map u8v))
   refine ae (bE hD (ar.own (i:=0) s' rfl)) ?_
   exact hQ _ s'.ch
  | succ r ih=>
   intro c G' hr hc hd s
   refine hR _ _ _ _ _ _ _ ?_
   rw [aH,aa,decide_eq_true (by omega),aX,bS,i64_in (by omega) (by omega),aa,bS,i64_in (by omega) (by omega),aa]
   have eb:(k:Int) - 1 - ((k - (r + 1):Nat):Int) = (r:Int):=by omega
   rw [eb]
   refine ae (KH (by omega)) ?_
   refine ae (LO _) ?_
   have hnext:((k - (r + 1):Nat):Int) + 1 = ((k - r:Nat):Int):=by omega
   rw [bC,aa,aE]
   have hbit:p / 2 ^ r % 2 = nN p r:=rfl
   refine ⟨fun h1=>?_,fun h1=>?_⟩
   ·have hb1:nN p r = 1:=by rw [<- hbit]; omega
    have hstep:pM p r c = sha (qz c r):=by unfold pM; rw [if_pos hb1]
    refine ae (KK r 8 (by decide) (by omega) rfl) ?_
    refine ae (mD (j:=r / 8) (by omega)) ?_
    refine ae (o4 (hs:=c) (j:=r / 8) (by omega) (ar.own (i:=1) s rfl)) ?_
    refine ae (KJ r 8 (by decide) rfl) ?_
    refine ae (K9 (by omega)) ?_
    refine ae (u8_xor _ _) ?_
    refine ae (mD (j:=r / 8) (by omega)) ?_
    refine fK (tM (hs:=c) (j:=r / 8) (by omega) (ar.own (i:=1) s rfl)) ?_
    rw [FK hc (by omega)]
    have s':=Sp.setRow (j:=1) s rfl (.agg ((qz c r).map u8v))
    have hfl:=wY hc r
    refine ae (bE hfl (ar.own (i:=1) s' rfl)) ?_
    refine gZ.use hfl fun G29 c29=>?_
    have s29:=s'.tmp c29
    refine fK (gg (hs':=sha (qz c r)) hfl (gI _) (ar.own (i:=1) s29 rfl)) ?_
    have s30:=Sp.setRow (j:=1) s29 rfl (.agg ((sha (qz c r)).map u8v))
    rw [wi,aa,i64_in (by omega) (by omega),hnext]
    refine ih _ _ (by omega) (gI _) ?_ s30
    rw [<- hstep]
    exact hd
   ·have hb0:¬ nN p r = 1:=by rw [<- hbit]; omega
    have hstep:pM p r c = c:=by unfold pM; rw [if_neg hb0]
    rw [wi,aa,i64_in (by omega) (by omega),hnext]
    refine ih _ _ (by omega) hc ?_ s
    have hd':kf p r (pM p r c) = kf p k h:=hd
    rwa [hstep] at hd'
 have:=loop k h _ (Nat.le_refl _) hl rfl s3
 rwa [Nat.sub_self] at this
theorem gj.use {s:List UInt8} {n:Int} (hl:s.length = 32) (hQ:∀ G',Ch [] G [] G' -> Q (wM (fH s n)) G'):al P gj.n [.agg (s.map u8v),.int .i64 n] G Q:=by
 refine gj.sound ?_
 unfold gj.S
 rw [kM]
 intro i1 f1
 have s1:=(Sp.nil G).row f1 (.agg (s.map u8v))
 intro i3 f3
 have s3:=s1.row f3 (.agg (jD.map u8v))
 refine gH.use ?_
 unfold fH at hQ
 rw [fN,aa]
 cases hn:okN n with
 | false=>
  rw [hn] at hQ
  rw [Bool.not_false,aX]
  refine ae m9 ?_
  refine fK (gg (hs':=jD) rfl rfl (ar.own (i:=0) s3 rfl)) ?_
  have s9:=Sp.setRow (j:=0) s3 rfl (.agg (jD.map u8v))
  refine ae (bE rfl (ar.own (i:=0) s9 rfl)) ?_
  exact hQ _ s9.ch
 | true=>
  rw [hn] at hQ
  rw [Bool.not_true,aM]
  refine ae (bE hl (ar.own (i:=1) s3 rfl)) ?_
  refine fU.use hn ?_
  refine ⟨⟨bE hl (ar.own (i:=1) s3 rfl),trivial⟩,?_⟩
  refine iG.use (k:=48) hl (wR hn).2 (by omega) fun G15 c15=>?_
  have s15:=s3.tmp c15
  have hD:=kK (pl:=pl n) 48 hl
  refine fK (gg (hs':=kf (pl n) 48 s) rfl hD (ar.own (i:=0) s15 rfl)) ?_
  have s16:=Sp.setRow (j:=0) s15 rfl (.agg ((kf (pl n) 48 s).map u8v))
  refine ae (bE hD (ar.own (i:=0) s16 rfl)) ?_
  exact hQ _ s16.ch
theorem iv.use {n:Int} (hT:Tab G) (hQ:Q (Fe (oI n)) G):al P iv.n [.int .i64 n] G Q:=by
 refine iv.sound ?_
 unfold iv.S
 refine gH.use ?_
 unfold oI at hQ
 rw [fN,aa]
 cases hn:okN n with
 | false=>
  rw [hn] at hQ
  exact hQ
 | true=>
  rw [hn] at hQ
  rw [Bool.not_true,aM]
  obtain ⟨h1,h2⟩:=wR hn
  have e48:(2:Nat) ^ 48 = 281474976710656:=by decide
  refine fU.use hn ?_
  rw [iF cA mW rfl,u64_in (by omega) (by omega),aa]
  refine cC.use h2 hT ?_
  have hle:=rZ (pl n)
  have hmin:uo (.int .i64 48) (.int .i64 ((if pl n = 0 then 64 else level (pl n):Nat):Int)) = some (.int .i64 (level (pl n):Nat)):=by
   by_cases h0:pl n = 0
   ·rw [h0]; rfl
   ·rw [if_neg h0]
    simp only [uo]
    congr 2
    split <;> omega
  refine ae hmin ?_
  exact hQ
theorem gM.use {s:List UInt8} {a b:Int} (hT:Tab G) (hl:s.length = 32) (hQ:∀ G',Ch [] G [] G' -> Q (wM (jJ s a b)) G'):al P gM.n [.agg (s.map u8v),.int .i64 a,.int .i64 b] G Q:=by
 refine gM.sound ?_
 unfold gM.S
 rw [kM]
 intro i1 f1
 have s1:=(Sp.nil G).row f1 (.agg (s.map u8v))
 intro i3 f3
 have s3:=s1.row f3 (.agg ((List.replicate 32 (0:UInt8)).map u8v))
 revert s3
 generalize ah.upd _ i3 _ = G4
 intro s3
 have s3:Sp [] G [ar i3 (.agg (jD.map u8v)),ar i1 (.agg (s.map u8v))] G4:=s3
 refine iv.use (hT.mono s3.ro) ?_
 refine ae (ii0 _) ?_
 refine ae (ii1 _) ?_
 intro J28
 have none:∀ e:Int,jJ s a b = (jD,e) -> (wv (bk T aj []) fun v15=>wg (ax T G4 aj (.ptr i3 [] 0) v15) fun G16=>wv (lq T G16 aj (.ptr i3 [] 0)) fun v17=>Q (.tuple [v17,.int .i64 e]) G16):=by
  intro e he
  refine ae m9 ?_
  refine fK (gg (hs':=jD) rfl rfl (ar.own (i:=0) s3 rfl)) ?_
  have s9:=Sp.setRow (j:=0) s3 rfl (.agg (jD.map u8v))
  refine ae (bE rfl (ar.own (i:=0) s9 rfl)) ?_
  have:=hQ _ s9.ch
  rwa [he] at this
 have bad:okN a = false \/ okN b = false -> J28 (.bool true) G4:=by
  intro h
  simp -zeta only [J28,aX]
  refine none 90 ?_
  unfold jJ
  rcases h with h | h <;> rw [h] <;> simp
 have kA:okN a = true -> okN b = true -> J28 (.bool false) G4:=by
  intro ha hb
  simp -zeta only [J28,aM]
  have hlv:oI a = (((level (pl a):Nat):Int),0):=by unfold oI; rw [ha]; rfl
  rw [hlv]
  have hle:=rZ (pl a)
  refine fU.use ha ?_
  refine ae (KH (by omega)) ?_
  refine fU.use hb ?_
  refine ae (KH (by omega)) ?_
  rw [dy,aa,fg]
  refine ⟨fun hne=>?_,fun heq=>?_⟩
  ·refine none 5 ?_
   unfold jJ
   rw [ha,hb,if_neg (by omega)]
   rfl
  ·have hd:jJ s a b = (kf (pl b) (level (pl a)) s,0):=by
    unfold jJ
    rw [ha,hb,if_pos (by omega)]
    rfl
   refine ae (bE hl (ar.own (i:=1) s3 rfl)) ?_
   refine fU.use hb ?_
   refine ⟨⟨bE hl (ar.own (i:=1) s3 rfl),trivial⟩,?_⟩
   refine iG.use hl (wR hb).2 hle fun G33 c33=>?_
   have s33:=s3.tmp c33
   have hD:=kK (pl:=pl b) (level (pl a)) hl
   refine fK (gg (hs':=kf (pl b) (level (pl a)) s) rfl hD (ar.own (i:=0) s33 rfl)) ?_
   have s34:=Sp.setRow (j:=0) s33 rfl (.agg ((kf (pl b) (level (pl a)) s).map u8v))
   refine ae (bE hD (ar.own (i:=0) s34 rfl)) ?_
   have:=hQ _ s34.ch
   rwa [hd] at this
 cases ha:okN a with
 | false=>
  have hlv:oI a = (0,90):=by unfold oI; rw [ha]; rfl
  have hb2:=bad (.inl ha)
  rw [hlv]
  rw [dy,aa,decide_eq_false (by decide),Bool.not_false,aX]
  exact hb2
 | true=>
  have hlv:(oI a).2 = 0:=by unfold oI; rw [ha]; rfl
  rw [hlv,nz0,aa,aM]
  refine gH.use ?_
  rw [fN,aa]
  cases hb:okN b with
  | false=>exact bad (.inr hb)
  | true=>exact kA ha hb
end
end Go.Esc.M
namespace Go.Esc.M
open Go Go.Esc
def plA (p:Nat):List ag:=(List.range 48).map fun i=>.int .i64 ((nN p i:Nat):Int)
theorem po (p:Nat):(plA p).length = 48:=by simp [plA]
theorem uI (p:Nat) {i:Nat} (hi:i < 48):(plA p)[i]? = some (.int .i64 ((nN p i:Nat):Int)):=by
 rw [plA,List.getElem?_map,List.getElem?_range hi]
 rfl
theorem qM (p:Nat):uni 1 (plA p) = true:=by simp [plA,uni,sz]
theorem Ap:∀ l:List Int,kT (l.map (ag.int .i64)) = true
 | []=>rfl
 | b :: l=>by simp [kT,okv,Ap l]
theorem BD (p:Nat):okv (.agg (plA p)) = true:=by
 have:plA p = ((List.range 48).map fun i=>((nN p i:Nat):Int)).map (ag.int .i64):=by simp [plA]
 rw [this,okv]
 exact Ap _
theorem pz (p:Nat):fa oq (.agg (plA p)) = true:=by
 have h1:szs (plA p) = 48:=by rw [gv (qM p),po]
 simp [fa,sz,h1,oq,ag.isAgg,j4.isAgg]
theorem D3 (p:Nat):sz (.agg (plA p)) = 48:=by rw [sz,gv (qM p),po]
theorem zm {p:Nat}:∀ (i:Nat),(∀ j,j < i -> nN p j = 0) -> 2 ^ i ∣ p
 | 0,_=>by simp
 | i + 1,h=>by
  obtain ⟨c,hc⟩:=zm i fun j hj=>h j (by omega)
  have hi:=h i (by omega)
  unfold nN at hi
  have e:p / 2 ^ i = c:=Nat.div_eq_of_eq_mul_right (Nat.pow_pos (by decide)) hc
  rw [e] at hi
  refine ⟨c / 2,?_⟩
  rw [Nat.pow_succ,Nat.mul_assoc,show 2 * (c / 2) = c by omega]
  exact hc
theorem Gx {p i:Nat} (hi:i < 48) (hz:∀ j,j < i -> nN p j = 0) (h1:nN p i = 1):level p = i:=by
 obtain ⟨c,hc⟩:=zm i hz
 unfold nN at h1
 have e:p / 2 ^ i = c:=Nat.div_eq_of_eq_mul_right (Nat.pow_pos (by decide)) hc
 rw [e] at h1
 refine Ip (m:=c / 2) hi ?_
 rw [show 2 * (c / 2) + 1 = c by omega]
 exact hc
theorem Gy {p:Nat} (hp:p < 2 ^ 48) (hz:∀ j,j < 48 -> nN p j = 0):level p = 48:=by
 have:=Nat.eq_zero_of_dvd_of_lt (zm 48 hz) hp
 rw [this,En]
theorem Dx (p i:Nat):p.testBit i = decide (nN p i = 1):=by rw [Nat.testBit_eq_decide_div_mod_eq]; rfl
theorem IQ {a b n:Nat} (ha:a < 2 ^ 48) (hb:b < 2 ^ 48) (h:∀ i,n ≤ i -> i < 48 -> nN a i = nN b i):a / 2 ^ n = b / 2 ^ n:=by
 apply Nat.eq_of_testBit_eq
 intro j
 rw [Nat.testBit_div_two_pow,Nat.testBit_div_two_pow]
 by_cases hj:j + n < 48
 ·rw [Dx,Dx,h (j + n) (by omega) hj]
 ·have h48:(2:Nat) ^ 48 ≤ 2 ^ (j + n):=Nat.pow_le_pow_right (by decide) (by omega)
  rw [Nat.testBit_lt_two_pow (by omega),Nat.testBit_lt_two_pow (by omega)]
theorem I2 {a b n i:Nat} (h:a / 2 ^ n = b / 2 ^ n) (hi:n ≤ i):nN a i = nN b i:=by
 obtain ⟨j,rfl⟩:∃ j,i = n + j:=⟨i - n,by omega⟩
 rw [FU,FU,h]
theorem KT (p i:Nat):nN p i = 0 \/ nN p i = 1:=by unfold nN; omega
section
variable {F0:List AId} {G0 G:ah} {ps:List LP} {Q:ag -> ah -> Prop}
theorem cw.use {n:Int} (hQ:Q (.bool (okN n)) G):al P cw.n [.int .i64 n] G Q:=by
 refine cw.sound ?_
 unfold cw.S
 unfold okN at hQ
 rw [gq,aa,aE]
 refine ⟨fun h=>?_,fun h=>by rwa [decide_eq_false h,Bool.false_and] at hQ⟩
 rw [decide_eq_true h,Bool.true_and] at hQ
 rw [jl,aa]
 exact hQ
theorem cj.use {n:Int} (hn:okN n = true) (hQ:∀ G',Ch [] G [] G' -> Q (.agg (plA (pl n))) G'):al P cj.n [.int .i64 n] G Q:=by
 refine cj.sound ?_
 unfold cj.S
 obtain ⟨hp1,hp2⟩:=wR hn
 obtain ⟨p,hp⟩:∃ p,p = pl n:=⟨_,rfl⟩
 rw [<- hp] at hp1 hp2 hQ
 obtain ⟨Z,hZ⟩:∃ Z,Z = List.replicate 48 (ag.int .i64 0):=⟨_,rfl⟩
 have hz:nS = .agg Z:=by rw [hZ]; rfl
 have hZl:Z.length = 48:=by rw [hZ]; simp
 have hDZ:(plA p).length = Z.length:=by rw [po,hZl]
 have huZ:uni 1 Z = true:=by rw [hZ]; exact mO rfl
 rw [hz]
 intro i1 f1
 have s1:=(Sp.nil G).row f1 (.agg Z)
 intro i3 f3
 have s3:=s1.row f3 (.agg Z)
 rw [bS,hp1,aa]
 have e48:(2:Nat) ^ 48 = 281474976710656:=by decide
 rw [i64_in (by omega) (by omega)]
 have hum:∀ j,uni 1 (mix (plA p) Z j) = true:=fun j=>kP (jc (qM p) _) (pg huZ _)
 intro R hR
 have loop:∀ (m j:Nat) (G':ah),48 - j = m -> j ≤ 48 -> Sp [] G [ar i3 (.agg (mix (plA p) Z j)),ar i1 (.agg Z)] G' -> R [.ptr i1 [] 0,.ptr i3 [] 0,.int .i64 ((p / 2 ^ j:Nat):Int),.int .i64 (j:Int)] G':=by
  intro m
  induction m with
  | zero=>
   intro j G' hm hj s
   have h48:j = Z.length:=by omega
   rw [h48,C5 hDZ] at s
   refine hR _ _ _ _ _ ?_
   rw [aH,aa,decide_eq_false (by omega),aM]
   refine ae (cJ j0 (ar.own (i:=0) s rfl) (pz p)) ?_
   refine fK (il j0 (ar.own (i:=1) s rfl) (pz p) (by rw [D3,sz,gv huZ,hZl]) (BD p)) ?_
   have s':=Sp.setRow (j:=1) s rfl (.agg (plA p))
   refine ae (cJ j0 (ar.own (i:=1) s' rfl) (pz p)) ?_
   exact hQ _ s'.ch
  | succ m ih=>
   intro j G' hm hj s
   have hjZ:j < Z.length:=by omega
   have hle:p / 2 ^ j ≤ p:=Nat.div_le_self _ _
   refine hR _ _ _ _ _ ?_
   rw [aH,aa,decide_eq_true (by omega),aX]
   refine ae (KJ (p / 2 ^ j) 2 (by decide) rfl) ?_
   refine ae (pa (j:=j) j0 rfl hO rfl (by omega)) ?_
   have hold:(mix (plA p) Z j)[j]? = some (.int .i64 0):=by
    rw [Fx hDZ hjZ]
    congr 1
    simp only [hZ,List.getElem_replicate]
   refine fK (I7 (s:=1) (c:=.int .i64 ((p / 2 ^ j % 2:Nat):Int)) hO (ar.own (i:=0) s rfl) (hum j) hold rfl rfl rfl) ?_
   have hset:(mix (plA p) Z j).set j (.int .i64 ((p / 2 ^ j % 2:Nat):Int)) = mix (plA p) Z (j + 1):=by
    have:=Fw hDZ hjZ
    have e:(plA p)[j]'(by rw [po]; omega) = .int .i64 ((p / 2 ^ j % 2:Nat):Int):=by
     have:=uI p (i:=j) (by omega)
     rw [List.getElem?_eq_getElem (by rw [po]; omega)] at this
     injection this
    rwa [e] at this
   rw [hset]
   have s':=Sp.setRow (j:=0) s rfl (.agg (mix (plA p) Z (j + 1)))
   have hq:aw T .quo me (.int .i64 ((p / 2 ^ j:Nat):Int)) (.int .i64 2) = some (.int .i64 ((p / 2 ^ (j + 1):Nat):Int)):=by
    rw [yh _ _ _ _ _ (by decide)]
    have h2:(((p / 2 ^ j:Nat):Int).tdiv 2) = ((p / 2 ^ j / 2:Nat):Int):=yp _ 2
    have h3:p / 2 ^ (j + 1) = p / 2 ^ j / 2:=by rw [Nat.pow_succ,Nat.div_div_eq_div_mul]
    obtain ⟨q,hq⟩:∃ q,q = p / 2 ^ j:=⟨_,rfl⟩
    rw [h2,h3]
    rw [<- hq] at hle ⊢
    rw [i64_in (by omega) (by omega)]
   refine ae hq ?_
   rw [wi,aa,i64_in (by omega) (by omega)]
   exact ih (j + 1) _ (by omega) (by omega) s'
 have:=loop 48 0 _ rfl (by omega) (by rw [C4]; exact s3)
 simpa using this
theorem dd.use {p:Nat} (hp:p < 2 ^ 48) (hQ:∀ G',Ch [] G [] G' -> Q (.int .i64 ((level p:Nat):Int)) G'):al P dd.n [.agg (plA p)] G Q:=by
 refine dd.sound ?_
 unfold dd.S
 intro i1 f1
 have s1:=(Sp.nil G).row f1 (.agg (plA p))
 intro R hR
 have loop:∀ (m j:Nat),48 - j = m -> j ≤ 48 -> (∀ q,q < j -> nN p q = 0) -> R [.ptr i1 [] 0,.int .i64 (j:Int)] (G.upd i1 (.own (.agg (plA p)))):=by
  intro m
  induction m with
  | zero=>
   intro j hm hj hz
   have h48:j = 48:=by omega
   subst h48
   refine hR _ _ _ ?_
   rw [aH,aa,decide_eq_false (by omega),aM]
   have:=hQ _ s1.ch
   rwa [Gy hp hz] at this
  | succ m ih=>
   intro j hm hj hz
   refine hR _ _ _ ?_
   rw [aH,aa,decide_eq_true (by omega),aX]
   refine ae (pa (j:=j) j0 rfl hO rfl (by omega)) ?_
   refine ae (vg (s:=1) hO (ar.own (i:=0) s1 rfl) (qM p) (uI p (by omega)) rfl) ?_
   rw [bC,aa,aE]
   refine ⟨fun h1=>?_,fun h1=>?_⟩
   ·have:=hQ _ s1.ch
    rwa [Gx (by omega) hz (by omega)] at this
   ·rw [wi,aa,i64_in (by omega) (by omega)]
    refine ih (j + 1) (by omega) (by omega) fun q hq=>?_
    by_cases hqj:q = j
    ·subst hqj
     rcases KT p q with h | h
     ·exact h
     ·omega
    ·exact hz q (by omega)
 exact loop 48 0 rfl (by omega) (fun q hq=>by omega)
theorem bW.use {h:List UInt8} (hl:h.length = 32) (hQ:∀ G',Ch [] G [] G' -> Q (.agg ((sha h).map u8v)) G'):al P bW.n [.agg (h.map u8v)] G Q:=by
 refine bW.sound ?_
 unfold bW.S
 rw [kM]
 intro i1 f1
 have s1:=(Sp.nil G).row f1 (.agg (h.map u8v))
 intro i3 f3
 have s3:=s1.row f3 (.agg ((List.replicate 32 (0:UInt8)).map u8v))
 refine ae oh ?_
 refine ae (jZ fu rfl dz rfl fZ rfl (qV (ar.own (i:=1) s3 rfl) hl)) ?_
 refine B4 (T:=T) (ts:=im) (e:=bH) (si:=jm) (ie:=iO) (l:=[h].map .str) lD rfl fZ rfl rfl rfl rfl (by simp [sz,iO]) (by decide) s3 fun v7 G8 s8=>?_
 refine eI.use (xs:=[h]) (bj.own (i:=0) s8 rfl).is (by simp) (by simp; omega) fun G10 c10=>?_
 have s10:=s8.tmp c10
 have e1:[h].flatten = h:=by simp
 rw [e1]
 refine fK (gg (hs':=sha h) (by simp) (gI _) (ar.own (i:=1) s10 rfl)) ?_
 have s11:=Sp.setRow (j:=1) s10 rfl (.agg ((sha h).map u8v))
 refine ae (bE (gI _) (ar.own (i:=1) s11 rfl)) ?_
 exact hQ _ s11.ch
theorem dL.use {h:List UInt8} {p k:Nat} (hl:h.length = 32) (hk:k ≤ 48) (hQ:∀ G',Ch [] G [] G' -> Q (.agg ((kf p k h).map u8v)) G'):al P dL.n [.agg (h.map u8v),.agg (plA p),.int .i64 (k:Int)] G Q:=by
 refine dL.sound ?_
 unfold dL.S
 rw [kM]
 intro i1 f1
 have s1:=(Sp.nil G).row f1 (.agg (h.map u8v))
 intro i3 f3
 have s3:=s1.row f3 (.agg (plA p))
 intro i5 f5
 have s5:=s3.row f5 (.agg ((List.replicate 32 (0:UInt8)).map u8v))
 rw [bS,i64_in (by omega) (by omega),aa]
 intro R hR
 have hD:=kK (pl:=p) k hl
 have loop:∀ (r:Nat) (c:List UInt8) (G':ah),r ≤ k -> c.length = 32 -> kf p r c = kf p k h -> Sp [] G [ar i5 (.agg ((List.replicate 32 (0:UInt8)).map u8v)),ar i3 (.agg (plA p)),ar i1 (.agg (c.map u8v))] G' -> R [.ptr i1 [] 0,.ptr i3 [] 0,.ptr i5 [] 0,.int .i64 ((r:Int) - 1)] G':=by
  intro r
  induction r with
  | zero=>
   intro c G' hr hc hd s
   have hcD:c = kf p k h:=hd
   subst hcD
   refine hR _ _ _ _ _ ?_
   rw [gq,aa,decide_eq_false (by omega),aM]
   refine ae (bE hD (ar.own (i:=2) s rfl)) ?_
   refine fK (gg (hs':=kf p k h) (by simp) hD (ar.own (i:=0) s rfl)) ?_
   have s':=Sp.setRow (j:=0) s rfl (.agg ((kf p k h).map u8v))
   refine ae (bE hD (ar.own (i:=0) s' rfl)) ?_
   exact hQ _ s'.ch
  | succ r ih=>
   intro c G' hr hc hd s
   refine hR _ _ _ _ _ ?_
   have er:((r + 1:Nat):Int) - 1 = (r:Int):=by omega
   rw [er,gq,aa,decide_eq_true (by omega),aX]
   refine ae (pa (j:=r) j0 rfl hO rfl (by omega)) ?_
   refine ae (vg (s:=1) hO (ar.own (i:=1) s rfl) (qM p) (uI p (by omega)) rfl) ?_
   rw [bC,aa,aE]
   refine ⟨fun h1=>?_,fun h1=>?_⟩
   ·have hb1:nN p r = 1:=by omega
    have hstep:pM p r c = sha (qz c r):=by unfold pM; rw [if_pos hb1]
    refine ae (KK r 8 (by decide) (by omega) rfl) ?_
    refine ae (KK r 8 (by decide) (by omega) rfl) ?_
    refine ae (mD (j:=r / 8) (by omega)) ?_
    refine ae (o4 (hs:=c) (j:=r / 8) (by omega) (ar.own (i:=2) s rfl)) ?_
    refine ae (KJ r 8 (by decide) rfl) ?_
    refine ae (v:=.int .u64 ((r % 8:Nat):Int)) (by rw [iF hO B7 rfl,u64_in (by omega) (by omega)]) ?_
    refine ae (K9 (by omega)) ?_
    refine ae (u8_xor _ _) ?_
    refine ae (mD (j:=r / 8) (by omega)) ?_
    refine fK (tM (hs:=c) (j:=r / 8) (by omega) (ar.own (i:=2) s rfl)) ?_
    rw [FK hc (by omega)]
    have s':=Sp.setRow (j:=2) s rfl (.agg ((qz c r).map u8v))
    have hfl:=wY hc r
    refine ae (bE hfl (ar.own (i:=2) s' rfl)) ?_
    refine bW.use hfl fun G29 c29=>?_
    have s29:=s'.tmp c29
    refine fK (gg (hs':=sha (qz c r)) hfl (gI _) (ar.own (i:=2) s29 rfl)) ?_
    have s30:=Sp.setRow (j:=2) s29 rfl (.agg ((sha (qz c r)).map u8v))
    rw [bS,aa,i64_in (by omega) (by omega)]
    refine ih _ _ (by omega) (gI _) ?_ s30
    rw [<- hstep]
    exact hd
   ·have hb0:¬ nN p r = 1:=by omega
    have hstep:pM p r c = c:=by unfold pM; rw [if_neg hb0]
    rw [bS,aa,i64_in (by omega) (by omega)]
    refine ih _ _ (by omega) hc ?_ s
    have hd':kf p r (pM p r c) = kf p k h:=hd
    rwa [hstep] at hd'
 exact loop k h _ (Nat.le_refl _) hl rfl s5
theorem bJ.use {s:List UInt8} {n:Int} (hl:s.length = 32) (hQ:∀ G',Ch [] G [] G' -> Q (wM (fH s n)) G'):al P bJ.n [.agg (s.map u8v),.int .i64 n] G Q:=by
 refine bJ.sound ?_
 unfold bJ.S
 rw [kM]
 intro i1 f1
 have s1:=(Sp.nil G).row f1 (.agg (s.map u8v))
 intro i3 f3
 have s3:=s1.row f3 (.agg (jD.map u8v))
 refine cw.use ?_
 unfold fH at hQ
 rw [fN,aa]
 cases hn:okN n with
 | false=>
  rw [hn] at hQ
  rw [Bool.not_false,aX]
  refine ae m9 ?_
  refine fK (gg (hs':=jD) rfl rfl (ar.own (i:=0) s3 rfl)) ?_
  have s9:=Sp.setRow (j:=0) s3 rfl (.agg (jD.map u8v))
  refine ae (bE rfl (ar.own (i:=0) s9 rfl)) ?_
  exact hQ _ s9.ch
 | true=>
  rw [hn] at hQ
  rw [Bool.not_true,aM]
  refine ae (bE hl (ar.own (i:=1) s3 rfl)) ?_
  refine cj.use hn fun G13 c13=>?_
  have s13:=s3.tmp c13
  refine ⟨⟨bE hl (ar.own (i:=1) s13 rfl),trivial⟩,?_⟩
  refine dL.use (k:=48) hl (by omega) fun G15 c15=>?_
  have s15:=s13.tmp c15
  have hD:=kK (pl:=pl n) 48 hl
  refine fK (gg (hs':=kf (pl n) 48 s) rfl hD (ar.own (i:=0) s15 rfl)) ?_
  have s16:=Sp.setRow (j:=0) s15 rfl (.agg ((kf (pl n) 48 s).map u8v))
  refine ae (bE hD (ar.own (i:=0) s16 rfl)) ?_
  exact hQ _ s16.ch
theorem dY.use {n:Int} (hQ:∀ G',Ch [] G [] G' -> Q (Fe (oI n)) G'):al P dY.n [.int .i64 n] G Q:=by
 refine dY.sound ?_
 unfold dY.S
 refine cw.use ?_
 unfold oI at hQ
 rw [fN,aa]
 cases hn:okN n with
 | false=>
  rw [hn] at hQ
  exact hQ _ (Ch.refl _ _)
 | true=>
  rw [hn] at hQ
  rw [Bool.not_true,aM]
  refine cj.use hn fun G5 c5=>?_
  refine dd.use (wR hn).2 fun G7 c7=>?_
  exact hQ _ (((Sp.nil G).tmp c5).tmp c7).ch
theorem du.use {s:List UInt8} {a b:Int} (hl:s.length = 32) (hQ:∀ G',Ch [] G [] G' -> Q (wM (jJ s a b)) G'):al P du.n [.agg (s.map u8v),.int .i64 a,.int .i64 b] G Q:=by
 refine du.sound ?_
 unfold du.S
 rw [kM]
 intro i1 f1
 have s1:=(Sp.nil G).row f1 (.agg (s.map u8v))
 intro i3 f3
 have s3:=s1.row f3 (.agg ((List.replicate 32 (0:UInt8)).map u8v))
 revert s3
 generalize ah.upd _ i3 _ = G4
 intro s3
 have s3:Sp [] G [ar i3 (.agg (jD.map u8v)),ar i1 (.agg (s.map u8v))] G4:=s3
 intro J53
 have none:∀ (e:Int) {ps:List LP} {q:Nat} {G':ah},Sp [] G ps G' -> ps[q]? = some (ar i3 (.agg (jD.map u8v))) -> jJ s a b = (jD,e) -> (wv (bk T aj []) fun v15=>wg (ax T G' aj (.ptr i3 [] 0) v15) fun G16=>wv (lq T G16 aj (.ptr i3 [] 0)) fun v17=>Q (.tuple [v17,.int .i64 e]) G16):=by
  intro e ps q G' s9 hq he
  refine ae m9 ?_
  refine fK (gg (hs':=jD) rfl rfl (ar.own s9 hq)) ?_
  have s10:=Sp.setRow s9 hq (.agg (jD.map u8v))
  refine ae (bE rfl (ah.fc _ _ _)) ?_
  have:=hQ _ s10.ch
  rwa [he] at this
 have bad:okN a = false \/ okN b = false -> J53 (.bool true) G4:=by
  intro h
  simp -zeta only [J53,aX]
  refine none 90 (q:=0) s3 rfl ?_
  unfold jJ
  rcases h with h | h <;> rw [h] <;> simp
 have kA:okN a = true -> okN b = true -> J53 (.bool false) G4:=by
  intro ha hb
  simp -zeta only [J53,aM]
  have hle:=rZ (pl a)
  have hpa:=(wR ha).2
  have hpb:=(wR hb).2
  refine cj.use ha fun G17 c17=>?_
  have s17:=s3.tmp c17
  refine jQ s17 j0 (pz _) (by rw [D3]; rfl) (BD _) fun i18 G20 s20=>?_
  refine cj.use hb fun G22 c22=>?_
  have s22:=s20.tmp c22
  refine jQ s22 j0 (pz _) (by rw [D3]; rfl) (BD _) fun i23 G25 s25=>?_
  have s25:Sp [] G [ar i23 (.agg (plA (pl b))),ar i18 (.agg (plA (pl a))),ar i3 (.agg (jD.map u8v)),ar i1 (.agg (s.map u8v))] G25:=s25
  refine ae (cJ j0 (ar.own (i:=1) s25 rfl) (pz _)) ?_
  refine dd.use hpa fun G28 c28=>?_
  have s28:=s25.tmp c28
  intro R hR
  have loop:∀ (m j:Nat),48 - j = m -> j ≤ 48 -> level (pl a) ≤ j -> (∀ q,level (pl a) ≤ q -> q < j -> nN (pl a) q = nN (pl b) q) -> R [.ptr i1 [] 0,.ptr i3 [] 0,.ptr i18 [] 0,.ptr i23 [] 0,.int .i64 ((level (pl a):Nat):Int),.int .i64 (j:Int)] G28:=by
   intro m
   induction m with
   | zero=>
    intro j hm hj hlj hz
    have hd:jJ s a b = (kf (pl b) (level (pl a)) s,0):=by
     unfold jJ
     rw [ha,hb,if_pos (IQ hpa hpb fun i h1 h2=>hz i h1 (by omega))]
     rfl
    refine hR _ _ _ _ _ _ _ ?_
    rw [aH,aa,decide_eq_false (by omega),aM]
    refine ae (bE hl (ar.own (i:=3) s28 rfl)) ?_
    refine ae (cJ j0 (ar.own (i:=0) s28 rfl) (pz _)) ?_
    refine dL.use hl hle fun G50 c50=>?_
    have s50:=s28.tmp c50
    have hD:=kK (pl:=pl b) (level (pl a)) hl
    refine fK (gg (hs':=kf (pl b) (level (pl a)) s) rfl hD (ar.own (i:=2) s50 rfl)) ?_
    have s51:=Sp.setRow (j:=2) s50 rfl (.agg ((kf (pl b) (level (pl a)) s).map u8v))
    refine ae (bE hD (ar.own (i:=2) s51 rfl)) ?_
    have:=hQ _ s51.ch
    rwa [hd] at this
   | succ m ih=>
    intro j hm hj hlj hz
    refine hR _ _ _ _ _ _ _ ?_
    rw [aH,aa,decide_eq_true (by omega),aX]
    refine ae (pa (j:=j) j0 rfl hO rfl (by omega)) ?_
    refine ae (vg (s:=1) hO (ar.own (i:=1) s28 rfl) (qM _) (uI _ (by omega)) rfl) ?_
    refine ae (pa (j:=j) j0 rfl hO rfl (by omega)) ?_
    refine ae (vg (s:=1) hO (ar.own (i:=0) s28 rfl) (qM _) (uI _ (by omega)) rfl) ?_
    rw [dy,aa,fg]
    refine ⟨fun hne=>?_,fun heq=>?_⟩
    ·refine none 5 (q:=2) s28 rfl ?_
     unfold jJ
     rw [ha,hb,if_neg (fun h=>hne (by rw [I2 h hlj]))]
     rfl
    ·rw [wi,aa,i64_in (by omega) (by omega)]
     refine ih (j + 1) (by omega) (by omega) (by omega) fun q h1 h2=>?_
     by_cases hqj:q = j
     ·subst hqj; omega
     ·exact hz q h1 (by omega)
  exact loop (48 - level (pl a)) (level (pl a)) rfl hle (Nat.le_refl _) (fun q h1 h2=>by omega)
 refine cw.use ?_
 rw [fN,aa]
 cases ha:okN a with
 | false=>
  rw [Bool.not_false,aX]
  exact bad (.inl ha)
 | true=>
  rw [Bool.not_true,aM]
  refine cw.use ?_
  rw [fN,aa]
  cases hb:okN b with
  | false=>exact bad (.inr hb)
  | true=>exact kA ha hb
end
end Go.Esc.M
namespace Go.Esc.M
open Go Go.Esc
theorem JU:(kf (2 ^ 48 - 1) 48 jD).take 4 = [2,164,12,133]:=by decide +kernel
end Go.Esc.M
