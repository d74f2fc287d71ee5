import Derived.Test.YtkojimdacnohpaaGreatDoorLFj
import Derived.Test.YtkojimdacnohpaaGreatDoorLPw
import Derived.Test.YtkojimdacnohpaaGreatDoorLHb
import Derived.Test.YtkojimdacnohpaaGreatDoorLFb
set_option maxHeartbeats 8000000
set_option linter.unusedSimpArgs false
set_option linter.unusedVariables false
set_option maxRecDepth 20000
namespace Go.Esc.M
open Go Go.Esc
def Blk (s:Nat) (l:List ba):Prop:=∀ i,fJ ((l.drop (i * s)).take s)
theorem FT (s:Nat):Blk s []:=fun i=>by simp [fJ]
theorem sg {s c:Nat} {X S:List ba} (h:Blk s X) (hl:X.length = c * s) (hS:S.length ≤ s) (ho:fJ S):Blk s (X ++ S):=by
 intro i
 by_cases h1:i < c
 ·have e:c * s = i * s + s + (c - i - 1) * s:=by
   have:c = i + 1 + (c - i - 1):=by omega
   conv=>lhs; rw [this]
   rw [Nat.add_mul,Nat.add_mul,Nat.one_mul]
  rw [List.drop_append_of_le_length (by omega),List.take_append_of_le_length (by rw [List.length_drop]; omega)]
  exact h i
 ·by_cases h2:i = c
  ·subst h2
   rw [<- hl,List.drop_left,List.take_of_length_le hS]
   exact ho
  ·have e:i * s = c * s + s + (i - c - 1) * s:=by
    have:i = c + 1 + (i - c - 1):=by omega
    conv=>lhs; rw [this]
    rw [Nat.add_mul,Nat.add_mul,Nat.one_mul]
   rw [List.drop_eq_nil_of_le (by rw [List.length_append]; omega)]
   simp [fJ]
theorem I1 {s c:Nat} {l:List ba} (h:Blk s l):Blk s (l.drop (c * s)):=fun i=>by
 rw [List.drop_drop,<- Nat.add_mul]
 exact h _
theorem B5 {s:Nat} {l:List ba} (h:Blk s l) (hl:l.length ≤ s):fJ l:=by
 have:=h 0
 rw [Nat.zero_mul,List.drop_zero,List.take_of_length_le hl] at this
 exact this
theorem wz {s:Nat} {P T:List ba} (h:Blk s (P ++ T)) (hP:P.length = s):fJ P /\ Blk s T:=by
 constructor
 ·have:=h 0
  rw [Nat.zero_mul,List.drop_zero,<- hP,List.take_left] at this
  exact this
 ·have:=I1 (c:=1) h
  rw [Nat.one_mul,<- hP,List.drop_left] at this
  rw [hP] at this
  exact this
section
variable {F0:List AId} {G0 G:ah} {ps:List LP} {Q:ag -> ah -> Prop}
theorem KC.use {v:ag} {L:List ba} (hok:∀ p ∈ L,p.ok) (hlen:L.length ≤ 1048576) (hs:Sp F0 G0 (bj 35 v (L.map ba.av) :: ps) G)
  (hQ:∀ S G',ga S L -> fJ S -> Sp F0 G0 (bj 35 v (S.map ba.av) :: ps) G' -> Q (.tuple []) G') :
  al P bm.n [v,.int .i64 (L.length:Int),tu] G Q:=by
 refine bm.sound ?_
 unfold bm.S
 have okS:∀ {S:List ba},ga S L -> ∀ p ∈ S,p.ok:=fun h p hp=>hok p (h.mem.1 hp)
 have last:∀ (c:Nat) (X T0:List ba) (G':ah),T0.length < 20 -> X.length = c * 20 -> Blk 20 X -> ga (X ++ T0) L -> Sp F0 G0 (bj 35 v ((X ++ T0).map ba.av) :: ps) G' -> ∀ R1:List ag -> ah -> Prop,(∀ (x3 x4 x5 x6 x7 x8:ag) (G2:ah),(wv (aw T .leq au x8 x4) fun v9=>brB (some v9)   (al P aV.n [x3,x7,x8,x5] G2 fun v10 G11=>wv (aw T .add au x8 x6) fun v12=>R1 [x3,x4,x5,x6,x8,v12] G11)   (al P aV.n [x3,x7,x4,x5] G2 fun v13 G14=>∀ R15:List ag -> ah -> Prop,  (∀ (x17 x18 x19 x20:ag) (G16:ah),(wv (aw T .lss au x20 x18) fun v21=>brB (some v21)   (wv (aw T .mul au (.int .i64 2) x20) fun v22=>∀ R23:List ag -> ah -> Prop,  (∀ (x25 x26 x27 x28 x29 x30:ag) (G24:ah),(wv (aw T .leq au x30 x26) fun v31=>brB (some v31)   (wv (aw T .add au x29 x28) fun v32=>al P aT.n [x25,x29,v32,x30,x27] G24 fun v33 G34=>wv (aw T .mul au (.int .i64 2) x28) fun v35=>wv (aw T .add au x30 v35) fun v36=>R23 [x25,x26,x27,x28,x30,v36] G34)   (wv (aw T .add au x29 x28) fun v37=>wv (aw T .lss au v37 x26) fun v38=>brB (some v38)   (al P aT.n [x25,x29,v37,x26,x27] G24 fun v39 G40=>wv (aw T .mul au x28 (.int .i64 2)) fun v43=>R15 [x25,x26,x27,v43] G40)   (wv (aw T .mul au x28 (.int .i64 2)) fun v44=>R15 [x25,x26,x27,v44] G24))) -> R23 [x25,x26,x27,x28,x29,x30] G24) ->   R23 [x17,x18,x19,x20,.int .i64 0,v22] G16)   (Q (.tuple []) G16)) -> R15 [x17,x18,x19,x20] G16) ->   R15 [x3,x4,x5,x6] G14)) -> R1 [x3,x4,x5,x6,x7,x8] G2) -> R1 [v,.int .i64 (L.length:Int),tu,.int .i64 20,.int .i64 (X.length:Int),.int .i64 ((X.length + 20:Nat):Int)] G':=by
  intro c X T0 G' h20 hX hb hst sp R hR
  have hL:=hst.length
  rw [List.length_append] at hL
  refine hR _ _ _ _ _ _ _ ?_
  rw [jl,aa,decide_eq_false (by omega),aM]
  refine Aw.use (X:=X) (S:=T0) (Y:=[]) (fun p hp=>okS hst p (by simpa using hp)) (by simp only [List.length_append,List.length_nil]; omega) rfl (by omega) (by simpa using sp) fun S' G1 q1 q2 sp1=>?_
  have lS:=q1.length
  have hM:Blk 20 (X ++ S'):=sg hb hX (by omega) q2
  have hMst:ga (X ++ S') L:=(ga.append (ga.refl X) q1).trans hst
  have sp1:Sp F0 G0 (bj 35 v ((X ++ S').map ba.av) :: ps) G1:=by simpa using sp1
  intro R15 hR15
  have outer:∀ (n bs:Nat) (M:List ba) (G':ah),L.length - bs ≤ n -> 1 ≤ bs -> bs ≤ 2097152 -> Blk bs M -> ga M L -> Sp F0 G0 (bj 35 v (M.map ba.av) :: ps) G' -> R15 [v,.int .i64 (L.length:Int),tu,.int .i64 (bs:Int)] G':=by
   intro n
   induction n with
   | zero=>
    intro bs M G' hn h1 h2 hb hst sp
    refine hR15 _ _ _ _ _ ?_
    rw [aH,aa,decide_eq_false (by omega),aM]
    exact hQ M G' hst (B5 hb (by rw [hst.length]; omega)) sp
   | succ n ihn=>
    intro bs M G' hn h1 h2 hb hst sp
    have hML:=hst.length
    by_cases hbl:L.length ≤ bs
    ·exact ihn bs M G' (by omega) h1 h2 hb hst sp
    ·refine hR15 _ _ _ _ _ ?_
     rw [aH,aa,decide_eq_true (by omega),aX]
     rw [jL,i64_in (by omega) (by omega),aa]
     intro R23 hR23
     have inner:∀ (k c:Nat) (X T0:List ba) (G':ah),T0.length ≤ k -> X.length = c * (2 * bs) -> Blk (2 * bs) X -> Blk bs T0 -> ga (X ++ T0) L -> Sp F0 G0 (bj 35 v ((X ++ T0).map ba.av) :: ps) G' ->
       R23 [v,.int .i64 (L.length:Int),tu,.int .i64 (bs:Int),.int .i64 (X.length:Int),.int .i64 ((X.length + 2 * bs:Nat):Int)] G':=by
      intro k
      have fin:∀ (c:Nat) (X T0:List ba) (G':ah),T0.length < 2 * bs -> X.length = c * (2 * bs) -> Blk (2 * bs) X -> Blk bs T0 -> ga (X ++ T0) L -> Sp F0 G0 (bj 35 v ((X ++ T0).map ba.av) :: ps) G' ->
        R23 [v,.int .i64 (L.length:Int),tu,.int .i64 (bs:Int),.int .i64 (X.length:Int),.int .i64 ((X.length + 2 * bs:Nat):Int)] G':=by
       intro c X T0 G' hlt hX hbX hbT hst sp
       have hL:=hst.length
       rw [List.length_append] at hL
       refine hR23 _ _ _ _ _ _ _ ?_
       rw [jl,aa,decide_eq_false (by omega),aM]
       rw [wi,i64_in (by omega) (by omega),aa,aH,aa,aE]
       refine ⟨fun hlt2=>?_,fun hge=>?_⟩
       ·obtain ⟨P,hP⟩:∃ x,x = T0.take bs:=⟨_,rfl⟩
        obtain ⟨T1,hT1⟩:∃ x,x = T0.drop bs:=⟨_,rfl⟩
        have hT:T0 = P ++ T1:=by rw [hP,hT1,List.take_append_drop]
        have lP:P.length = bs:=by rw [hP,List.length_take]; omega
        have lT1:T1.length = T0.length - bs:=by rw [hT1,List.length_drop]
        rw [hT] at sp hst hbT
        obtain ⟨sP,bT1⟩:=wz hbT lP
        refine CH.use (P.length + T1.length) (X:=X) (A:=P) (B:=T1) (Y:=[]) (Nat.le_refl _) (fun p hp=>okS hst p (by simpa using hp)) (by simp only [List.length_append,List.length_nil]; omega) (fun e=>by rw [e] at lP; simp at lP; omega) (fun e=>by rw [e] at lT1; simp at lT1; omega) sP (B5 bT1 (by omega)) rfl (by omega) (by omega) (by simpa using sp) fun S G1 q1 q2 sp1=>?_
        have lS:=q1.length
        rw [List.length_append] at lS
        rw [jL,i64_in (by omega) (by omega),aa]
        have:=ihn (2 * bs) (X ++ S) G1 (by omega) (by omega) (by omega) (sg hbX hX (by omega) q2) ((ga.append (ga.refl X) q1).trans hst) (by simpa using sp1)
        have e:((2 * bs:Nat):Int) = (bs:Int) * 2:=by omega
        rw [e] at this
        exact this
       ·rw [jL,i64_in (by omega) (by omega),aa]
        have:=ihn (2 * bs) (X ++ T0) G' (by omega) (by omega) (by omega) (sg hbX hX (by omega) (B5 hbT (by omega))) hst sp
        have e:((2 * bs:Nat):Int) = (bs:Int) * 2:=by omega
        rw [e] at this
        exact this
      induction k with
      | zero=>
       intro c X T0 G' hk
       exact fin c X T0 G' (by omega)
      | succ k ihk=>
       intro c X T0 G' hk hX hbX hbT hst sp
       by_cases hlt:T0.length < 2 * bs
       ·exact fin c X T0 G' hlt hX hbX hbT hst sp
       ·have hL:=hst.length
        rw [List.length_append] at hL
        refine hR23 _ _ _ _ _ _ _ ?_
        rw [jl,aa,decide_eq_true (by omega),aX]
        rw [wi,i64_in (by omega) (by omega),aa]
        obtain ⟨P,hP⟩:∃ x,x = T0.take bs:=⟨_,rfl⟩
        obtain ⟨T1,hT1⟩:∃ x,x = (T0.drop bs).take bs:=⟨_,rfl⟩
        obtain ⟨T2,hT2⟩:∃ x,x = (T0.drop bs).drop bs:=⟨_,rfl⟩
        have hT:T0 = P ++ (T1 ++ T2):=by rw [hT1,hT2,List.take_append_drop,hP,List.take_append_drop]
        have lP:P.length = bs:=by rw [hP,List.length_take]; omega
        have lT1:T1.length = bs:=by rw [hT1,List.length_take,List.length_drop]; omega
        have lT2:T2.length = T0.length - bs - bs:=by rw [hT2,List.length_drop,List.length_drop]
        rw [hT] at sp hst hbT
        obtain ⟨sP,bT1⟩:=wz hbT lP
        obtain ⟨sT1,bT2⟩:=wz bT1 lT1
        refine CH.use (P.length + T1.length) (X:=X) (A:=P) (B:=T1) (Y:=T2) (Nat.le_refl _) (fun p hp=>okS hst p (by simpa using hp)) (by simp only [List.length_append]; omega) (fun e=>by rw [e] at lP; simp at lP; omega) (fun e=>by rw [e] at lT1; simp at lT1; omega) sP sT1 rfl (by omega) (by omega) (by simpa using sp) fun S G1 q1 q2 sp1=>?_
        have lS:=q1.length
        rw [List.length_append] at lS
        rw [jL,i64_in (by omega) (by omega),aa]
        rw [wi,i64_in (by omega) (by omega),aa]
        have e1:(X ++ S).length = X.length + 2 * bs:=by rw [List.length_append]; omega
        have:=ihk (c + 1) (X ++ S) T2 G1 (by omega) (by rw [e1,hX,Nat.add_mul]; omega) (sg hbX hX (by omega) q2) bT2 (by
         refine ga.trans ?_ hst
         have:=ga.append (ga.refl X) (ga.append q1 (ga.refl T2))
         simpa using this) (by simpa using sp1)
        rw [e1] at this
        have e2:((X.length + 2 * bs:Nat):Int) + 2 * (bs:Int) = ((X.length + 2 * bs + 2 * bs:Nat):Int):=by omega
        rw [e2]
        exact this
     have:=inner M.length 0 [] M G' (Nat.le_refl _) (by simp) (FT _) hb (by simpa using hst) (by simpa using sp)
     have e:(2 * (bs:Int)) = ((([]:List ba).length + 2 * bs:Nat):Int):=by simp
     rw [e]
     exact this
  exact outer L.length 20 (X ++ S') G1 (by omega) (by decide) (by decide) hM hMst sp1
 intro R hR
 have loop:∀ (n c:Nat) (X T0:List ba) (G':ah),T0.length ≤ n -> X.length = c * 20 -> Blk 20 X -> ga (X ++ T0) L -> Sp F0 G0 (bj 35 v ((X ++ T0).map ba.av) :: ps) G' ->
   R [v,.int .i64 (L.length:Int),tu,.int .i64 20,.int .i64 (X.length:Int),.int .i64 ((X.length + 20:Nat):Int)] G':=by
  intro n
  induction n with
  | zero=>
   intro c X T0 G' hn hX hb hst sp
   exact last c X T0 G' (by omega) hX hb hst sp R hR
  | succ n ih=>
   intro c X T0 G' hn hX hb hst sp
   have hL:=hst.length
   rw [List.length_append] at hL
   by_cases h20:20 ≤ T0.length
   ·refine hR _ _ _ _ _ _ _ ?_
    rw [jl,aa,decide_eq_true (by omega),aX]
    obtain ⟨P,hP⟩:∃ x,x = T0.take 20:=⟨_,rfl⟩
    obtain ⟨T1,hT1⟩:∃ x,x = T0.drop 20:=⟨_,rfl⟩
    have hT:T0 = P ++ T1:=by rw [hP,hT1,List.take_append_drop]
    have lP:P.length = 20:=by rw [hP,List.length_take]; omega
    have lT1:T1.length = T0.length - 20:=by rw [hT1,List.length_drop]
    rw [hT] at sp hst
    refine Aw.use (X:=X) (S:=P) (Y:=T1) (fun p hp=>okS hst p (by simpa using hp)) (by simp only [List.length_append]; omega) rfl (by rw [lP]) (by simpa using sp) fun S' G1 q1 q2 sp1=>?_
    rw [wi,i64_in (by omega) (by omega),aa]
    have lS:=q1.length
    have e1:(X ++ S').length = X.length + 20:=by rw [List.length_append,lS,lP]
    have:=ih (c + 1) (X ++ S') T1 G1 (by omega) (by rw [e1,hX]; omega) (sg hb hX (by omega) q2) (by
     refine ga.trans ?_ hst
     have:=ga.append (ga.refl X) (ga.append q1 (ga.refl T1))
     simpa using this) sp1
    rw [e1] at this
    exact this
   ·exact last c X T0 G' (by omega) hX hb hst sp R hR
 have:=loop L.length 0 [] L G (Nat.le_refl _) (by simp) (FT 20) (ga.refl _) (by simpa using hs)
 simpa using this
theorem D8.use {v:ag} {L:List ba} (hok:∀ p ∈ L,p.ok) (hlen:L.length ≤ 1048576) (hs:Sp F0 G0 (bj 35 v (L.map ba.av) :: ps) G)
  (hQ:∀ G',Sp F0 G0 (bj 35 v ((jO L).map ba.av) :: ps) G' -> Q (.tuple []) G') :
  al P aN.n [v,tu] G Q:=by
 refine aN.sound ?_
 unfold aN.S
 refine ae (v:=.int .i64 (L.length:Nat)) ?_ ?_
 ·rw [(bj.own (i:=0) hs rfl).is.len (i:=bU) cq rfl,List.length_map]
 refine KC.use hok hlen hs fun S G' q1 q2 sp=>?_
 rw [Jx q1 q2] at sp
 exact hQ G' sp
end
end Go.Esc.M
namespace Go.Esc.M
open Go Go.Esc
def stays (r:List aK) (u:aK):Bool:=decide (u.kind = 1) && !decide (je u.id r = 3)
def jF (r:List aK) (u:aK):Bool:=decide (u.kind = 1) && decide (je u.id r = 2)
def opens (r:List aK) (u:aK):Bool:=stays r u && !decide (je u.id r = 2)
def gm (f:aK -> Bool) (l:List aK):Int:=((l.filter f).map (·.amount)).sum
def CS (mine:Bool) (u:aK):ba:=⟨mine,u.id,u.amount,u.hash⟩
def hJ (mine:Bool) (f:aK -> Bool) (l:List aK):List ba:=(l.filter f).map (CS mine)
theorem oX {f:aK -> Bool} {l:List aK} {j:Nat} {u:aK} (h:l[j]? = some u):gm f (l.take (j + 1)) = gm f (l.take j) + if f u = true then u.amount else 0:=by
 unfold gm
 rw [List.take_add_one,h,List.filter_append,List.map_append,List.sum_append]
 congr 1
 simp only [Option.toList_some,List.filter_cons,List.filter_nil]
 split <;> simp
theorem yK {mine:Bool} {f:aK -> Bool} {l:List aK} {j:Nat} {u:aK} (h:l[j]? = some u):hJ mine f (l.take (j + 1)) = hJ mine f (l.take j) ++ if f u = true then [CS mine u] else []:=by
 unfold hJ
 rw [List.take_add_one,h,List.filter_append,List.map_append]
 congr 1
 simp only [Option.toList_some,List.filter_cons,List.filter_nil]
 split <;> simp
theorem qn (mine:Bool) (f:aK -> Bool) (l:List aK):(hJ mine f l).length ≤ l.length:=by
 unfold hJ
 rw [List.length_map]
 exact List.length_filter_le _ _
theorem uJ {mine:Bool} {u:aK} (h:u.ok):(CS mine u).ok:=⟨h.id,h.amount,h.hash⟩
theorem qm {mine:Bool} {f:aK -> Bool} {l:List aK} (h:∀ u ∈ l,u.ok):∀ p ∈ hJ mine f l,p.ok:=by
 intro p hp
 obtain ⟨u,hu,rfl⟩:=List.mem_map.1 hp
 exact uJ (h u (List.mem_filter.1 hu).1)
section
variable {F0:List AId} {G0 G:ah} {ps:List LP} {Q:ag -> ah -> Prop}
theorem gD.use {n:Nat} {v:ag} {l r:List aK} {mid:AId} {es:List (Int × Int)} {mine:Bool} {u1 l1 u2 l2:Int} (hl:fV 36 G v (l.map aK.av)) (hok:∀ u ∈ l,u.ok) (hval:∀ u ∈ l,dC u = true) (hlen:l.length ≤ 1048576) (hm:G mid = some (.map (oR es))) (hes:∀ id,oO es id = Ek (je id r)) (hw1:Wd n u1 l1) (hw2:Wd n u2 l2) (hn:n ≤ 16777216)
  (hQ:∀ a b c d w G',Wd (n + l.length) a b -> Wd (n + l.length) c d -> om a b = om u1 l1 - gm (stays r) l -> om c d = om u2 l2 + gm (jF r) l -> Sp [] G [bj 35 w ((jO (hJ mine (opens r) l)).map ba.av)] G' -> Q (.tuple [bR a b,bR c d,w]) G') :
  al P gD.n [v,.map mid,.bool mine,bR u1 l1,bR u2 l2] G Q:=by
 refine gD.sound ?_
 unfold gD.S
 rw [E0]
 intro i1 f1
 have s1:=(Sp.nil G).row f1 (bR u1 l1)
 intro i3 f3
 have s3:=s1.row f3 (bR u2 l2)
 intro i5 f5
 have s5:=s3.row f5 (bR 0 0)
 intro i7 f7
 have s7:=s5.row f7 (bR 0 0)
 refine ae (fy (hl.ch' s7.ch)) ?_
 intro R hR
 have loop:∀ (k j:Nat) (a b c d:Int) (w:ag) (G':ah),l.length - j = k -> j ≤ l.length -> Wd (n + j) a b -> Wd (n + j) c d -> om a b = om u1 l1 - gm (stays r) (l.take j) -> om c d = om u2 l2 + gm (jF r) (l.take j) ->
   Sp [] G [bj 35 w ((hJ mine (opens r) (l.take j)).map ba.av),ar i7 (bR 0 0),ar i5 (bR 0 0),ar i3 (bR c d),ar i1 (bR a b)] G' ->
   R [.map mid,.bool mine,.ptr i1 [] 0,.ptr i3 [] 0,.ptr i5 [] 0,.ptr i7 [] 0,w,v,.int .i64 (l.length:Int),.int .i64 (j:Int)] G':=by
  intro k
  induction k with
  | zero=>
   intro j a b c d w G' hk hj w1 w2 t1 t2 sp
   have hjl:j = l.length:=by omega
   subst hjl
   rw [List.take_length] at t1 t2 sp
   refine hR _ _ _ _ _ _ _ _ _ _ _ ?_
   rw [aH,aa,decide_eq_false (by omega),aM]
   have hpl:=qn mine (opens r) l
   refine D8.use (qm hok) (by omega) sp fun G64 s64=>?_
   refine ae (dD (ar.own (i:=4) s64 rfl) fG rfl).2.2 ?_
   refine ae (dD (ar.own (i:=3) s64 rfl) fG rfl).2.2 ?_
   refine kN (i:=2) s64 rfl fun G67 s67=>?_
   refine ⟨⟨(dD (ar.own (i:=3) s67 rfl) fG rfl).2.2,trivial⟩,?_⟩
   refine kN (i:=1) s67 rfl fun G68 s68=>?_
   refine ae (dD (ar.own (i:=2) s68 rfl) fG rfl).2.2 ?_
   refine ae (dD (ar.own (i:=1) s68 rfl) fG rfl).2.2 ?_
   exact hQ _ _ _ _ _ _ w1 w2 t1 t2 ((((s68.erase 1).erase 1).erase 1).erase 1)
  | succ k ih=>
   intro j a b c d w G' hk hj w1 w2 t1 t2 sp
   obtain ⟨u,hu⟩:∃ u,l[j]? = some u:=⟨_,List.getElem?_eq_getElem (by omega)⟩
   have huo:=hok u (List.mem_of_getElem? hu)
   have huv:=hval u (List.mem_of_getElem? hu)
   have n1:=oX (f:=stays r) hu
   have n2:=oX (f:=jF r) hu
   have n3:=yK (mine:=mine) (f:=opens r) hu
   refine hR _ _ _ _ _ _ _ _ _ _ _ ?_
   rw [aH,aa,decide_eq_true (by omega),aX]
   have ev:aw T .add au (.int .i64 (j:Int)) (.int .i64 1) = some (.int .i64 ((j + 1:Nat):Int)):=by
    rw [wi,i64_in (by omega) (by omega)]
    rfl
   have wmono:∀ {x y:Int},Wd (n + j) x y -> Wd (n + (j + 1)) x y:=fun h=>⟨by have:=h.u1; omega,by have:=h.u2; omega,by have:=h.l1; omega,by have:=h.l2; omega⟩
   intro J62
   obtain ⟨p,e1,e2⟩:=oF (hl.ch' sp.ch) hu
   refine ae e1 ?_
   refine ae e2 ?_
   refine C3 sp huo fun i25 G27 s27=>?_
   intro J58
   have look:∀ {G2:ah},Ch [] G [] G2 -> ja T G2 ju (.map mid) (.int .i64 u.id) false = some (.int .i64 (je u.id r)):=fun hc=>by
    rw [HU (KQ hc hm),hes]
    congr 2
    unfold Ek
    split
    ·rename_i h; rw [h]; rfl
    ·rfl
   have skip:∀ G33,Sp [] G [ar i25 u.av,bj 35 w ((hJ mine (opens r) (l.take j)).map ba.av),ar i7 (bR 0 0),ar i5 (bR 0 0),ar i3 (bR c d),ar i1 (bR a b)] G33 -> stays r u = false -> J58 (.bool true) G33:=by
    intro G33 s33 hst
    simp -zeta only [J58,aX,J62]
    have hp:jF r u = false:=by
     unfold stays at hst; unfold jF
     by_cases hk:u.kind = 1
     ·rw [decide_eq_true hk,Bool.true_and] at hst ⊢
      have h3:je u.id r = 3:=by simpa using hst
      rw [h3]; rfl
     ·rw [decide_eq_false hk]; rfl
    have ho:opens r u = false:=by unfold opens; rw [hst]; rfl
    rw [hst] at n1; rw [hp] at n2; rw [ho] at n3
    refine ae ev (ih (j + 1) a b c d w G33 (by omega) (by omega) (wmono w1) (wmono w2) (by rw [t1,n1]; simp) (by rw [t2,n2]; simp) ?_)
    rw [n3]
    simpa using s33.erase 0
   have take:∀ G33,Sp [] G [ar i25 u.av,bj 35 w ((hJ mine (opens r) (l.take j)).map ba.av),ar i7 (bR 0 0),ar i5 (bR 0 0),ar i3 (bR c d),ar i1 (bR a b)] G33 -> u.kind = 1 -> ¬ je u.id r = 3 -> J58 (.bool false) G33:=by
    intro G33 s33 hk h3
    simp -zeta only [J58,aM]
    have hst:stays r u = true:=by simp [stays,hk,h3]
    rw [hst] at n1
    have ham:amt u.amount:=by
     have:=(kO huv).2.2
     constructor <;> omega
    refine ae (dD (ar.own (i:=5) s33 rfl) fG rfl).2.2 ?_
    refine ae (dh (i:=0) s33 rfl huo).2.2.1 ?_
    refine dR.use w1 (by omega) ham fun a' b' G38 c38 wd ht=>?_
    have s38:=s33.tmp c38
    refine kN (i:=5) s38 rfl fun G39 s39=>?_
    obtain ⟨q0,q1,q2,q3,q4,q5⟩:=dh (i:=0) s39 rfl huo
    refine ae q1 ?_
    refine ae (look s39.ch) ?_
    have ht1:om a' b' = om u1 l1 - gm (stays r) (l.take (j + 1)):=by rw [ht,t1,n1]; simp; omega
    rw [bC,aa,aE]
    refine ⟨fun h2=>?_,fun h2=>?_⟩
    ·have hp:jF r u = true:=by simp [jF,hk,h2]
     have ho:opens r u = false:=by simp [opens,h2]
     rw [hp] at n2; rw [ho] at n3
     refine ae (dD (ar.own (i:=4) s39 rfl) fG rfl).2.2 ?_
     refine ae q2 ?_
     refine cR.use w2 (by omega) ham fun c' d' G46 c46 wd2 ht2=>?_
     have s46:=s39.tmp c46
     refine kN (i:=4) s46 rfl fun G47 s47=>?_
     simp -zeta only [J62]
     refine ae ev (ih (j + 1) a' b' c' d' w G47 (by omega) (by omega) wd wd2 ht1 (by rw [ht2,t2,n2]; simp; omega) ?_)
     rw [n3]
     simpa using s47.erase 0
    ·have hp:jF r u = false:=by simp [jF,h2]
     have ho:opens r u = true:=by simp [opens,hst,h2]
     rw [hp] at n2; rw [ho] at n3
     refine ae q1 ?_
     refine ae q2 ?_
     refine ae q3 ?_
     refine ae (AP (p:=CS mine u) (uJ huo)) ?_
     have hal:=qn mine (opens r) (l.take j)
     rw [List.length_take] at hal
     have hb:eB.bytes = 56:=rfl
     refine uY (T:=T) (ts:=aq) (e:=aU) (si:=bU) (ie:=eB) (i:=1) (c:=(CS mine u).av) cq rfl fk rfl (by decide) s39 rfl (ba.sz (uJ huo)) (ba.okv _) (by decide) ?_ fun w' G55 s55=>?_
     ·rw [hb,List.length_map]; omega
     simp -zeta only [J62]
     refine ae ev (ih (j + 1) a' b' c d w' G55 (by omega) (by omega) wd (wmono w2) ht1 (by rw [t2,n2]; simp) ?_)
     rw [n3]
     have s:Sp [] G [bj 35 w' ((hJ mine (opens r) (l.take j)).map ba.av ++ [(CS mine u).av]),ar i7 (bR 0 0),ar i5 (bR 0 0),ar i3 (bR c d),ar i1 (bR a' b')] G55:=s55.erase 0
     simpa using s
   obtain ⟨q0,q1,q2,q3,q4,q5⟩:=dh (i:=0) s27 rfl huo
   refine ae q0 ?_
   rw [dy,aa]
   by_cases hk1:u.kind = 1
   ·rw [decide_eq_true hk1,Bool.not_true,aM]
    refine ae q1 ?_
    refine ae (look s27.ch) ?_
    rw [bC,aa]
    by_cases h3:je u.id r = 3
    ·rw [decide_eq_true h3]
     exact skip _ s27 (by simp [stays,h3])
    ·rw [decide_eq_false h3]
     exact take _ s27 hk1 h3
   ·rw [decide_eq_false hk1,Bool.not_false,aX]
    exact skip _ s27 (by simp [stays,hk1])
 exact loop l.length 0 u1 l1 u2 l2 .nilSlice _ rfl (by omega) hw1 hw2 (by simp [gm]) (by simp [gm]) (s7.nd 35)
end
end Go.Esc.M
namespace Go.Esc.M
open Go Go.Esc
def lL (l:List aK):Bool:=l.all dC
theorem AX {l:List aK} {j:Nat} {u:aK} (hu:l[j]? = some u) (h:∀ x ∈ l.take j,dC x = true) (hv:dC u = true):∀ x ∈ l.take (j + 1),dC x = true:=by
 intro x hx
 rw [List.take_add_one,hu] at hx
 rcases List.mem_append.1 hx with hx | hx
 ·exact h x hx
 ·have:x = u:=by simpa using hx
  rw [this]; exact hv
theorem FW {l:List aK} {j:Nat} {u:aK} (hu:l[j]? = some u) (hv:dC u = false):lL l = false:=by
 refine Bool.eq_false_iff.2 fun h=>?_
 have:=List.all_eq_true.1 h u (List.mem_of_getElem? hu)
 rw [hv] at this
 cases this
section
variable {F0:List AId} {G0 G:ah} {ps:List LP} {Q:ag -> ah -> Prop}
theorem fq.use {u:aK} (h:u.ok) (hQ:∀ G',Ch [] G [] G' -> Q (.bool (!dC u)) G'):al P fq.n [u.av] G Q:=by
 refine fq.sound ?_
 unfold fq.S
 intro i1 f1
 have s1:=(Sp.nil G).row f1 u.av
 refine ae (dh (i:=0) s1 rfl h).2.2.2.2.2 ?_
 refine fX.use h fun G5 c5=>?_
 have s5:=s1.tmp c5
 rw [fN,aa]
 exact hQ _ s5.ch
def Lj:ag:=.func (.func fq.n) [] []
theorem contains.use {v:ag} {l:List aK} (hl:fV 36 G v (l.map aK.av)) (hok:∀ u ∈ l,u.ok) (hlen:l.length ≤ 1048576) (hQ:∀ G',Ch [] G [] G' -> Q (.bool (!lL l)) G'):al P aO.n [v,Lj] G Q:=by
 refine aO.sound ?_
 unfold aO.S
 refine aZ.sound ?_
 unfold aZ.S
 refine ae (fy hl) ?_
 intro R hR
 have loop:∀ (m j:Nat) (G':ah),l.length - j = m -> j ≤ l.length -> (∀ x ∈ l.take j,dC x = true) -> Ch [] G [] G' -> R [v,Lj,.int .i64 (l.length:Int),.int .i64 (j:Int)] G':=by
  intro m
  induction m with
  | zero=>
   intro j G' hm hj h0 hc
   refine hR _ _ _ _ _ ?_
   rw [aH,aa,decide_eq_false (by omega),aM]
   rw [List.take_of_length_le (by omega)] at h0
   have:lL l = true:=List.all_eq_true.2 h0
   rw [this] at hQ
   refine ae (v:=.bool false) rfl ?_
   exact hQ _ hc
  | succ m ih=>
   intro j G' hm hj h0 hc
   obtain ⟨u,hu⟩:∃ u,l[j]? = some u:=⟨_,List.getElem?_eq_getElem (by omega)⟩
   have huo:=hok u (List.mem_of_getElem? hu)
   refine hR _ _ _ _ _ ?_
   rw [aH,aa,decide_eq_true (by omega),aX]
   obtain ⟨a,e1,e2⟩:=oF (hl.ch' hc) hu
   refine ae e1 ?_
   refine ae e2 ?_
   refine fq.use huo fun G12 c12=>?_
   have c12:Ch [] G [] G12:=hc.trans c12
   cases hv:dC u with
   | true=>
    rw [Bool.not_true,aM,wi,i64_in (by omega) (by omega),aa]
    exact ih (j + 1) G12 (by omega) (by omega) (AX hu h0 hv) c12
   | false=>
    rw [Bool.not_false,aX]
    rw [FW hu hv] at hQ
    refine ae (v:=.bool true) (by rw [gq,decide_eq_true (by omega)]) ?_
    exact hQ _ c12
 exact loop l.length 0 G rfl (by omega) (by simp) (Ch.refl _ _)
theorem db.use {v:ag} {l:List aK} (hl:fV 36 G v (l.map aK.av)) (hok:∀ u ∈ l,u.ok) (hlen:l.length ≤ 1048576) (hQ:∀ G',Ch [] G [] G' -> Q (.bool (lL l)) G'):al P db.n [v] G Q:=by
 refine db.sound ?_
 unfold db.S
 intro R hR
 have loop:∀ (m j:Nat) (G':ah),l.length - j = m -> j ≤ l.length -> (∀ x ∈ l.take j,dC x = true) -> Ch [] G [] G' -> R [v,.int .i64 (j:Int)] G':=by
  intro m
  induction m with
  | zero=>
   intro j G' hm hj h0 hc
   refine hR _ _ _ ?_
   refine ae (fy (hl.ch' hc)) ?_
   rw [aH,aa,decide_eq_false (by omega),aM]
   rw [List.take_of_length_le (by omega)] at h0
   have:lL l = true:=List.all_eq_true.2 h0
   rw [this] at hQ
   exact hQ _ hc
  | succ m ih=>
   intro j G' hm hj h0 hc
   obtain ⟨u,hu⟩:∃ u,l[j]? = some u:=⟨_,List.getElem?_eq_getElem (by omega)⟩
   have huo:=hok u (List.mem_of_getElem? hu)
   refine hR _ _ _ ?_
   refine ae (fy (hl.ch' hc)) ?_
   rw [aH,aa,decide_eq_true (by omega),aX]
   obtain ⟨a,e1,e2⟩:=oF (hl.ch' hc) hu
   refine ae e1 ?_
   refine ae e2 ?_
   refine cy.use huo fun G12 c12=>?_
   have c12:Ch [] G [] G12:=hc.trans c12
   rw [fN,aa]
   cases hv:dC u with
   | true=>
    rw [Bool.not_true,aM,wi,i64_in (by omega) (by omega),aa]
    exact ih (j + 1) G12 (by omega) (by omega) (AX hu h0 hv) c12
   | false=>
    rw [Bool.not_false,aX]
    rw [FW hu hv] at hQ
    exact hQ _ c12
 exact loop l.length 0 G rfl (by omega) (by simp) (Ch.refl _ _)
end
end Go.Esc.M
namespace Go.Esc.M
open Go Go.Esc
section
variable {F0:List AId} {G0 G:ah} {ps:List LP} {Q:ag -> ah -> Prop}
end
end Go.Esc.M
namespace Go.Esc.M
open Go Go.Esc
theorem rX (p:ba):∀ {a:List ba} (b:List ba),(∀ q ∈ a,¬ p.id < q.id) -> gX (a ++ b) p = a ++ gX b p
 | [],b,_=>rfl
 | q :: a,b,h=>by
  have hq:=h q (by simp)
  rw [List.cons_append,List.cons_append,gX,if_neg hq,rX p b fun x hx=>h x (by simp [hx])]
theorem wQ (p:ba):∀ {a:List ba} (b:List ba),(∃ q ∈ a,p.id < q.id) -> gX (a ++ b) p = gX a p ++ b
 | [],b,h=>by obtain ⟨q,hq,_⟩:=h; cases hq
 | q :: a,b,h=>by
  by_cases hq:p.id < q.id
  ·rw [List.cons_append,gX,if_pos hq,gX,if_pos hq]; rfl
  ·have:∃ x ∈ a,p.id < x.id:=by
    obtain ⟨x,hx,hlt⟩:=h
    rcases List.mem_cons.1 hx with rfl | hx
    ·exact absurd hlt hq
    ·exact ⟨x,hx,hlt⟩
   rw [List.cons_append,gX,if_neg hq,gX,if_neg hq,wQ p b this]; rfl
theorem Ej (p:ba) {a:List ba} (h:∀ q ∈ a,¬ p.id < q.id):gX a p = a ++ [p]:=by
 have:=rX p [] h
 rw [List.append_nil] at this
 exact this
theorem yJ (p:ba):∀ a:List ba,(gX a p).length = a.length + 1
 | []=>rfl
 | x :: a=>by
  rw [gX]
  split
  ·rfl
  ·rw [List.length_cons,yJ p a,List.length_cons]
section
variable {F0:List AId} {G0 G:ah} {ps:List LP} {Q:ag -> ah -> Prop}
theorem H0 {v:ag} {l:List ba} {j:Nat} {p:ba} {x:Int} (h:fV 35 G v (l.map ba.av)) (hx:x = (j:Int)) (hj:l[j]? = some p):∃ a b,aL T aq v (.int .i64 x) = some a /\ bx T aU a 1 = some b /\ lq T G me b = some (.int .i64 p.id):=by
 subst hx
 exact fV.fld (k:=.i64) (cs:=[.bool p.ours,.int .i64 p.id,.int .i64 p.amount,.agg (p.hash.map u8v)]) (i:=bU) (ie:=eB) cq rfl fk (fs:=[(ey,0),(me,1),(me,2),(aj,3)]) (f:=1) (o:=1) rfl rfl cA (by decide) h (by rw [List.getElem?_map,hj]; rfl) rfl rfl rfl
theorem uX {i:Nat} {v:ag} {l:List ba} {p:ba} {K:ag -> ah -> Prop} (hs:Sp F0 G0 ps G) (hi:ps[i]? = some (bj 35 v (l.map ba.av))) (ho:p.ok) (hl:l.length ≤ 2097152) (hK:∀ v' G',Sp F0 G0 (ps.set i (bj 35 v' ((l ++ [p]).map ba.av))) G' -> K v' G') :
  bh T aq 1 [(0,p.av)] G fun w G'=>cc T G' aq aq v w K:=by
 have hb:eB.bytes = 56:=rfl
 refine uY (ie:=eB) cq rfl fk rfl (by decide) hs hi (ba.sz ho) (ba.okv p) (by decide) (by rw [hb,List.length_map]; omega) fun s' G' h=>hK s' G' ?_
 rw [List.map_append]
 exact h
theorem dt.use {v:ag} {l:List ba} {p:ba} (hl:fV 35 G v (l.map ba.av)) (hok:∀ q ∈ l,q.ok) (hp:p.ok) (hlen:l.length ≤ 1048576) (hQ:∀ w G',Sp [] G [bj 35 w ((gX l p).map ba.av)] G' -> Q w G'):al P dt.n [v,p.av] G Q:=by
 refine dt.sound ?_
 unfold dt.S
 intro i1 f1
 have s1:=(Sp.nil G).row f1 p.av
 intro R hR
 have loop:∀ (m j:Nat) (w:ag) (dn:Bool) (out:List ba) (G':ah),l.length - j = m -> j ≤ l.length -> (dn = false -> out = l.take j /\ ∀ q ∈ l.take j,¬ p.id < q.id) -> (dn = true -> out = gX (l.take j) p /\ ∃ q ∈ l.take j,p.id < q.id) -> Sp [] G [bj 35 w (out.map ba.av),ar i1 p.av] G' ->
   R [v,.ptr i1 [] 0,w,.bool dn,.int .i64 (j:Int)] G':=by
  intro m
  induction m with
  | zero=>
   intro j w dn out G' hm hj h0 h1 sp
   refine hR _ _ _ _ _ _ ?_
   have hll:gF T G' aq v = some (.int .i64 (l.length:Nat)):=by rw [(hl.ch' sp.ch).len (i:=bU) cq rfl,List.length_map]
   refine ae hll ?_
   rw [aH,aa,decide_eq_false (by omega),aM,fN,aa]
   rw [List.take_of_length_le (by omega)] at h0 h1
   cases dn with
   | false=>
    obtain ⟨rfl,h0⟩:=h0 rfl
    rw [Bool.not_false,aX]
    refine ae (cJ fk (ar.own (i:=1) sp rfl) (ba.fits hp)) ?_
    refine uX (i:=0) sp rfl hp (by omega) fun w' G59 s59=>?_
    have s:=s59.erase 1
    rw [<- Ej p h0] at s
    exact hQ _ _ s
   | true=>
    obtain ⟨rfl,_⟩:=h1 rfl
    rw [Bool.not_true,aM]
    exact hQ _ _ (sp.erase 1)
  | succ m ih=>
   intro j w dn out G' hm hj h0 h1 sp
   obtain ⟨x,hx⟩:∃ x,l[j]? = some x:=⟨_,List.getElem?_eq_getElem (by omega)⟩
   have hxo:=hok x (List.mem_of_getElem? hx)
   have htk:l.take (j + 1) = l.take j ++ [x]:=by rw [List.take_add_one,hx]; rfl
   refine hR _ _ _ _ _ _ ?_
   have hll:gF T G' aq v = some (.int .i64 (l.length:Nat)):=by rw [(hl.ch' sp.ch).len (i:=bU) cq rfl,List.length_map]
   refine ae hll ?_
   rw [aH,aa,decide_eq_true (by omega),aX]
   have ev:aw T .add au (.int .i64 (j:Int)) (.int .i64 1) = some (.int .i64 ((j + 1:Nat):Int)):=by
    rw [wi,i64_in (by omega) (by omega)]
    rfl
   intro J47
   have hol:out.length ≤ 1048577:=by
    cases dn with
    | false=>rw [(h0 rfl).1,List.length_take]; omega
    | true=>rw [(h1 rfl).1,yJ,List.length_take]; omega
   have p9:(dn = false -> ¬ p.id < x.id) -> J47 (.bool false) G':=by
    intro hk
    simp -zeta only [J47,aM]
    obtain ⟨a,e1,e2⟩:=kX (hl.ch' sp.ch) rfl hx
    refine ae e1 ?_
    refine ae e2 ?_
    refine uX (i:=0) sp rfl hxo (by omega) fun w' G46 s46=>?_
    refine ae ev (ih (j + 1) w' dn (out ++ [x]) G46 (by omega) (by omega) (fun hd=>?_) (fun hd=>?_) s46)
    ·obtain ⟨e,h⟩:=h0 hd
     rw [htk,e]
     refine ⟨rfl,fun q hq=>?_⟩
     rcases List.mem_append.1 hq with hq | hq
     ·exact h q hq
     ·rw [List.mem_singleton.1 hq]; exact hk hd
    ·obtain ⟨e,h⟩:=h1 hd
     rw [htk,e,wQ p [x] h]
     obtain ⟨q,hq,hlt⟩:=h
     exact ⟨rfl,q,by simp [hq],hlt⟩
   rw [fN,aa]
   cases dn with
   | true=>
    rw [Bool.not_true,aM]
    exact p9 (fun h=>by cases h)
   | false=>
    rw [Bool.not_false,aX]
    obtain ⟨a,b,e1,e2,e3⟩:=H0 (hl.ch' sp.ch) rfl hx
    refine ae e1 ?_
    refine ae e2 ?_
    refine ae e3 ?_
    refine ae (v:=.ptr i1 [1] 1) rfl ?_
    refine ae (ba.fld hp (ar.own (i:=1) sp rfl)).2.1 ?_
    rw [de,aa]
    by_cases hlt:x.id > p.id
    ·rw [decide_eq_true hlt]
     simp -zeta only [J47,aX]
     obtain ⟨e,h⟩:=h0 rfl
     refine ae (cJ fk (ar.own (i:=1) sp rfl) (ba.fits hp)) ?_
     refine uX (i:=0) sp rfl hp (by omega) fun w' G25 s25=>?_
     obtain ⟨a,e1,e2⟩:=kX (hl.ch' s25.ch) rfl hx
     refine ae e1 ?_
     refine ae e2 ?_
     refine uX (i:=0) s25 rfl hxo (by rw [List.length_append,List.length_singleton]; omega) fun w2 G40 s40=>?_
     refine ae ev (ih (j + 1) w2 true (out ++ [p] ++ [x]) G40 (by omega) (by omega) (fun hd=>by cases hd) (fun _=>?_) s40)
     rw [htk,rX p [x] h,e,gX,if_pos hlt]
     exact ⟨by simp,x,by simp,hlt⟩
    ·rw [decide_eq_false hlt]
     exact p9 (fun _=>hlt)
 exact loop l.length 0 .nilSlice false [] _ rfl (by omega) (fun _=>⟨rfl,by simp⟩) (fun h=>by cases h) (s1.nd 35)
end
end Go.Esc.M
namespace Go.Esc.M
open Go Go.Esc
theorem vS (id:Int):∀ l:List aK,je id l = 0 \/ je id l = 2 \/ je id l = 3
 | []=>.inl rfl
 | u :: l=>by
  unfold je
  split
  ·rename_i h
   simp only [lr,Bool.and_eq_true,decide_eq_true_eq] at h
   have:=(kO h.2.2).2.2
   omega
  ·exact vS id l
theorem D9 (l:List ba) (p:ba):jO (l ++ [p]) = gX (jO l) p:=by
 unfold jO
 rw [List.foldl_append]
 rfl
theorem vQ (l:List ba):(jO l).length = l.length:=(uA l).1.length
theorem rQ {l:List ba} (h:∀ p ∈ l,p.ok):∀ p ∈ jO l,p.ok:=fun p hp=>h p ((uA l).1.mem.1 hp)
theorem qU {f:aK -> Bool} {l:List aK} (hv:∀ u ∈ l,f u = true -> amt u.amount):0 ≤ gm f l /\ gm f l ≤ (l.length:Int) * 1152921504606846976:=by
 unfold gm
 have h1:=Gh (A:=(l.filter f).map (·.amount)) (fun a ha=>by
  obtain ⟨u,hu,rfl⟩:=List.mem_map.1 ha
  obtain ⟨h1,h2⟩:=List.mem_filter.1 hu
  exact hv u h1 h2)
 have h2:=List.length_filter_le f l
 rw [List.length_map] at h1
 omega
end Go.Esc.M
namespace Go.Esc.M
open Go Go.Esc
section
variable {F0:List AId} {G0 G:ah} {ps:List LP} {Q:ag -> ah -> Prop}
def Ii (t:Int):Prop:=-1298074214633706907132624082305024 ≤ t /\ t ≤ 1298074214633706907132624082305024
theorem dH.use {v w:ag} {l r:List aK} {mine:Bool} {t1 t2:Int} (hl:fV 36 G v (l.map aK.av)) (hr:fV 36 G w (r.map aK.av)) (hok:∀ u ∈ l,u.ok) (hok2:∀ u ∈ r,u.ok) (hval:∀ u ∈ l,dC u = true) (hlen:l.length ≤ 1048576) (hlen2:r.length ≤ 1048576) (ht1:Ii t1) (ht2:Ii t2)
  (hQ:∀ x G',Sp [] G [bj 35 x ((jO (hJ mine (opens r) l)).map ba.av)] G' -> Q (.tuple [wdR (t1 - gm (stays r) l),wdR (t2 + gm (jF r) l),x]) G') :
  al P dH.n [wdR t1,wdR t2,v,w,.bool mine] G Q:=by
 refine dH.sound ?_
 unfold dH.S
 rw [xK]
 intro i1 f1
 have s1:=(Sp.nil G).row f1 (wdR t1)
 intro i3 f3
 have s3:=s1.row f3 (wdR t2)
 intro i5 f5
 have s5:=s3.row f5 (bR 0 0)
 intro i7 f7
 have s7:=s5.row f7 (bR 0 0)
 have ham:∀ u ∈ l,u.kind = 1 -> amt u.amount:=fun u hu hk=>by
  have:=(kO (hval u hu)).2.2
  constructor <;> omega
 have sm:∀ (j:Nat),small (t1 - gm (stays r) (l.take j)) /\ small (t2 + gm (jF r) (l.take j)):=fun j=>by
  obtain ⟨a1,a2⟩:=ht1
  obtain ⟨b1,b2⟩:=ht2
  have hm:∀ u ∈ l.take j,u ∈ l:=fun u hu=>List.mem_of_mem_take hu
  have h1:=qU (f:=stays r) (l:=l.take j) (fun u hu hf=>ham u (hm u hu) (by simp [stays] at hf; exact hf.1))
  have h2:=qU (f:=jF r) (l:=l.take j) (fun u hu hf=>ham u (hm u hu) (by simp [jF] at hf; exact hf.1))
  have h3:(l.take j).length ≤ 1048576:=by rw [List.length_take]; omega
  unfold small
  constructor <;> constructor <;> omega
 intro R hR
 have loop:∀ (k j:Nat) (x:ag) (G':ah),l.length - j = k -> j ≤ l.length ->
   Sp [] G [bj 35 x ((jO (hJ mine (opens r) (l.take j))).map ba.av),ar i7 (bR 0 0),ar i5 (bR 0 0),ar i3 (wdR (t2 + gm (jF r) (l.take j))),ar i1 (wdR (t1 - gm (stays r) (l.take j)))] G' ->
   R [v,w,.bool mine,.ptr i1 [] 0,.ptr i3 [] 0,.ptr i5 [] 0,.ptr i7 [] 0,x,.int .i64 (j:Int)] G':=by
  intro k
  induction k with
  | zero=>
   intro j x G' hk hj sp
   have hjl:j = l.length:=by omega
   subst hjl
   rw [List.take_length] at sp
   refine hR _ _ _ _ _ _ _ _ _ _ ?_
   refine ae (fy (hl.ch' sp.ch)) ?_
   rw [aH,aa,decide_eq_false (by omega),aM]
   refine ae (dD (ar.own (i:=4) sp rfl) b8 rfl).2.2 ?_
   refine ae (dD (ar.own (i:=3) sp rfl) b8 rfl).2.2 ?_
   refine jk (i:=2) sp rfl fun G67 s67=>?_
   refine ⟨⟨(dD (ar.own (i:=3) s67 rfl) b8 rfl).2.2,trivial⟩,?_⟩
   refine jk (i:=1) s67 rfl fun G68 s68=>?_
   refine ae (dD (ar.own (i:=2) s68 rfl) b8 rfl).2.2 ?_
   refine ae (dD (ar.own (i:=1) s68 rfl) b8 rfl).2.2 ?_
   exact hQ _ _ ((((s68.erase 1).erase 1).erase 1).erase 1)
  | succ k ih=>
   intro j x G' hk hj sp
   obtain ⟨u,hu⟩:∃ u,l[j]? = some u:=⟨_,List.getElem?_eq_getElem (by omega)⟩
   have huo:=hok u (List.mem_of_getElem? hu)
   have n1:=oX (f:=stays r) hu
   have n2:=oX (f:=jF r) hu
   have n3:=yK (mine:=mine) (f:=opens r) hu
   have hsm:=sm j
   refine hR _ _ _ _ _ _ _ _ _ _ ?_
   refine ae (fy (hl.ch' sp.ch)) ?_
   rw [aH,aa,decide_eq_true (by omega),aX]
   have ev:aw T .add au (.int .i64 (j:Int)) (.int .i64 1) = some (.int .i64 ((j + 1:Nat):Int)):=by
    rw [wi,i64_in (by omega) (by omega)]
    rfl
   intro J64
   obtain ⟨p,e1,e2⟩:=oF (hl.ch' sp.ch) hu
   refine ae e1 ?_
   refine ae e2 ?_
   refine C3 sp huo fun i24 G26 s26=>?_
   have go:∀ (x':ag) (G2:ah),Sp [] G [bj 35 x' ((jO (hJ mine (opens r) (l.take (j + 1)))).map ba.av),ar i7 (bR 0 0),ar i5 (bR 0 0),ar i3 (wdR (t2 + gm (jF r) (l.take (j + 1)))),ar i1 (wdR (t1 - gm (stays r) (l.take (j + 1))))] G2 -> J64 x' G2:=by
    intro x' G2 s
    simp -zeta only [J64]
    exact ae ev (ih (j + 1) x' G2 (by omega) (by omega) s)
   have skip:∀ G33,Sp [] G [ar i24 u.av,bj 35 x ((jO (hJ mine (opens r) (l.take j))).map ba.av),ar i7 (bR 0 0),ar i5 (bR 0 0),ar i3 (wdR (t2 + gm (jF r) (l.take j))),ar i1 (wdR (t1 - gm (stays r) (l.take j)))] G33 -> stays r u = false -> J64 x G33:=by
    intro G33 s33 hst
    have hp:jF r u = false:=by
     unfold stays at hst; unfold jF
     by_cases hk:u.kind = 1
     ·rw [decide_eq_true hk,Bool.true_and] at hst ⊢
      have h3:je u.id r = 3:=by simpa using hst
      rw [h3]; rfl
     ·rw [decide_eq_false hk]; rfl
    have ho:opens r u = false:=by unfold opens; rw [hst]; rfl
    rw [hst] at n1; rw [hp] at n2; rw [ho] at n3
    refine go x G33 ?_
    rw [n1,n2,n3]
    simpa using s33.erase 0
   obtain ⟨q0,q1,q2,q3,q4,q5⟩:=dh (i:=0) s26 rfl huo
   refine ae q0 ?_
   rw [dy,aa]
   by_cases hk1:u.kind = 1
   ·rw [decide_eq_true hk1,Bool.not_true,aM]
    have hamt:=ham u (List.mem_of_getElem? hu) hk1
    refine ae q1 ?_
    refine cO.use (hr.ch' s26.ch) hok2 hlen2 fun G31 c31=>?_
    have s31:=s26.tmp c31
    rw [bC,aa,aE]
    refine ⟨fun h2=>?_,fun h2=>?_⟩
    ·have hst:stays r u = true:=by simp [stays,hk1,h2]
     have hp:jF r u = true:=by simp [jF,hk1,h2]
     have ho:opens r u = false:=by simp [opens,h2]
     rw [hst] at n1; rw [hp] at n2; rw [ho] at n3
     refine ae (dD (ar.own (i:=5) s31 rfl) b8 rfl).2.2 ?_
     refine ae (dh (i:=0) s31 rfl huo).2.2.1 ?_
     refine dc.use hsm.1 hamt fun G36 c36=>?_
     have s36:=s31.tmp c36
     refine jk (i:=5) s36 rfl fun G37 s37=>?_
     refine ae (dD (ar.own (i:=4) s37 rfl) b8 rfl).2.2 ?_
     refine ae (dh (i:=0) s37 rfl huo).2.2.1 ?_
     refine cU.use hsm.2 hamt fun G41 c41=>?_
     have s41:=s37.tmp c41
     refine jk (i:=4) s41 rfl fun G42 s42=>?_
     refine go x G42 ?_
     rw [n1,n2,n3]
     simp only [Bool.false_eq_true,if_false,if_true,List.append_nil]
     have e1:t1 - (gm (stays r) (l.take j) + u.amount) = t1 - gm (stays r) (l.take j) - u.amount:=by omega
     have e2:t2 + (gm (jF r) (l.take j) + u.amount) = t2 + gm (jF r) (l.take j) + u.amount:=by omega
     rw [e1,e2]
     exact s42.erase 0
    ·rw [bC,aa,aE]
     have hp:jF r u = false:=by simp [jF,h2]
     rw [hp] at n2
     refine ⟨fun h0=>?_,fun h0=>?_⟩
     ·have hst:stays r u = true:=by simp [stays,hk1,h0]
      have ho:opens r u = true:=by simp [opens,hst,h2]
      rw [hst] at n1; rw [ho] at n3
      refine ae (dD (ar.own (i:=5) s31 rfl) b8 rfl).2.2 ?_
      refine ae (dh (i:=0) s31 rfl huo).2.2.1 ?_
      refine dc.use hsm.1 hamt fun G47 c47=>?_
      have s47:=s31.tmp c47
      refine jk (i:=5) s47 rfl fun G48 s48=>?_
      obtain ⟨r0,r1,r2,r3,_,_⟩:=dh (i:=0) s48 rfl huo
      refine ae r1 ?_
      refine ae r2 ?_
      refine ae r3 ?_
      refine ae (AP (p:=CS mine u) (uJ huo)) ?_
      have hpl:=qn mine (opens r) (l.take j)
      rw [List.length_take] at hpl
      refine dt.use (bj.own (i:=1) s48 rfl).is (rQ (qm fun u hu=>hok u (List.mem_of_mem_take hu))) (uJ huo) (by rw [vQ]; omega) fun x' G54 t54=>?_
      obtain ⟨F54,o54,k54⟩:=t54.out
      have s54:=s48.new o54 k54
      refine go x' G54 ?_
      rw [n1,n2,n3]
      simp only [Bool.false_eq_true,if_false,if_true,Int.add_zero]
      rw [D9]
      have e1:t1 - (gm (stays r) (l.take j) + u.amount) = t1 - gm (stays r) (l.take j) - u.amount:=by omega
      rw [e1]
      exact (s54.erase 1).erase 1
     ·have h3:je u.id r = 3:=by
       have:=vS u.id r
       omega
      exact skip _ s31 (by simp [stays,h3])
   ·rw [decide_eq_false hk1,Bool.not_false,aX]
    exact skip _ s26 (by simp [stays,hk1])
 exact loop l.length 0 .nilSlice _ rfl (by omega) (by simpa [gm,hJ,jO] using s7.nd 35)
end
end Go.Esc.M
namespace Go.Esc.M
open Go Go.Esc
theorem Ad {f g h:aK -> Bool}:∀ {l:List aK},(∀ u ∈ l,f u = (g u || h u) /\ (g u && h u) = false) -> gm f l = gm g l + gm h l
 | [],_=>rfl
 | u :: l,hl=>by
  have ih:=Ad (f:=f) (g:=g) (h:=h) (l:=l) fun x hx=>hl x (by simp [hx])
  obtain ⟨h1,h2⟩:=hl u (by simp)
  unfold gm at ih ⊢
  cases hg:g u <;> cases hh:h u <;> rw [hg,hh] at h1 h2 <;> simp [h1,hg,hh] at h2 ⊢ <;> omega
theorem pN (r l:List aK):gm (stays r) l = gm (jF r) l + gm (opens r) l:=by
 refine Ad fun u _=>?_
 unfold opens stays jF
 by_cases h2:je u.id r = 2
 ·simp [h2]
 ·simp [h2]
def ml (bo:Int) (a b:List aK):Int:=bo - gm (stays b) a + gm (jF a) b
def mT (bp:Int) (a b:List aK):Int:=bp + gm (jF b) a - gm (stays a) b
def nJ (a b:List aK):List ba:=jO (hJ true (opens b) a) ++ jO (hJ false (opens a) b)
structure FoldM where
 o:Int
 q:Int
 l:List ba
 e:Int
def FoldM.no (e:Int):FoldM:=⟨0,0,[],e⟩
def foldM (bo bp:Int) (a b:List aK):FoldM :=
 if lL a = false \/ lL b = false then .no 120
 else if ml bo a b < 0 \/ mT bp a b < 0 then .no 130
 else ⟨ml bo a b,mT bp a b,nJ a b,0⟩
def inC (co cp:Int) (ours jA:List aK):Prop:=0 ≤ co /\ co ≤ ours.length /\ 0 ≤ cp /\ cp ≤ jA.length
instance (co cp:Int) (ours jA:List aK):Decidable (inC co cp ours jA):=by unfold inC; infer_instance
instance (a:Int):Decidable (amt a):=by unfold amt; infer_instance
def k8 (bo bp:Int) (ours jA:List aK) (co cp:Int):FoldM :=
 if inC co cp ours jA /\ amt bo /\ amt bp /\ amt (bo + bp) then foldM bo bp (ours.take co.toNat) (jA.take cp.toNat) else .no 1
theorem pb {l:List aK} (h:lL l = true):∀ u ∈ l,dC u = true:=fun u hu=>List.all_eq_true.1 h u hu
theorem q8 {r l:List aK} (hv:∀ u ∈ l,dC u = true):0 ≤ gm (opens r) l:=by
 refine (qU fun u hu hf=>?_).1
 have:=(kO (hv u hu)).2.2
 have hk:u.kind = 1:=by simp [opens,stays] at hf; exact hf.1.1
 constructor <;> omega
theorem IH {bo bp:Int} {a b:List aK}:ml bo a b + mT bp a b + gm (opens b) a + gm (opens a) b = bo + bp:=by
 have h1:=pN b a
 have h2:=pN a b
 unfold ml mT
 omega
theorem BS {bo bp:Int} {a b:List aK} (ha:∀ u ∈ a,dC u = true) (hb:∀ u ∈ b,dC u = true) (h:bo + bp ≤ 1152921504606846976) :
  (0 ≤ mT bp a b -> ml bo a b ≤ 1152921504606846976) /\ (0 ≤ ml bo a b -> mT bp a b ≤ 1152921504606846976):=by
 have h1:=IH (bo:=bo) (bp:=bp) (a:=a) (b:=b)
 have h2:=q8 (r:=b) ha
 have h3:=q8 (r:=a) hb
 constructor <;> intro _ <;> omega
theorem qL {t:Int} (h0:0 ≤ t) (h1:t ≤ 1152921504606846976):pY t = t /\ Dm t = t:=by
 unfold pY Dm
 rw [if_neg (by omega),if_pos (by omega),if_neg (by omega)]
 refine ⟨rfl,?_⟩
 split <;> omega
theorem sr (t:Int):pY t < 0 ↔ t < 0:=by
 unfold pY
 split
 ·omega
 ·split <;> omega
theorem IJ {a b:List aK} (ha:∀ u ∈ a,u.ok) (hb:∀ u ∈ b,u.ok):∀ p ∈ nJ a b,p.ok:=by
 intro p hp
 rcases List.mem_append.1 hp with hp | hp
 ·exact rQ (qm ha) p hp
 ·exact rQ (qm hb) p hp
theorem vZ (a b:List aK):(nJ a b).length ≤ a.length + b.length:=by
 unfold nJ
 rw [List.length_append,vQ,vQ]
 have:=qn true (opens b) a
 have:=qn false (opens a) b
 omega
theorem IK {bo bp:Int} {a b:List aK} (ha:∀ u ∈ a,u.ok) (hb:∀ u ∈ b,u.ok):∀ p ∈ (foldM bo bp a b).l,p.ok:=by
 intro p hp
 unfold foldM at hp
 split at hp
 ·cases hp
 ·split at hp
  ·cases hp
  ·exact IJ ha hb p hp
theorem GP (bo bp:Int) (a b:List aK):(foldM bo bp a b).l.length ≤ a.length + b.length:=by
 unfold foldM
 split
 ·simp [FoldM.no]
 ·split
  ·simp [FoldM.no]
  ·exact vZ a b
theorem II {bo bp:Int} {a b:List aK} {co cp:Int} (ha:∀ u ∈ a,u.ok) (hb:∀ u ∈ b,u.ok):∀ p ∈ (k8 bo bp a b co cp).l,p.ok:=by
 intro p hp
 unfold k8 at hp
 split at hp
 ·exact IK (fun u hu=>ha u (List.mem_of_mem_take hu)) (fun u hu=>hb u (List.mem_of_mem_take hu)) p hp
 ·cases hp
theorem GN (bo bp:Int) (a b:List aK) (co cp:Int):(k8 bo bp a b co cp).l.length ≤ a.length + b.length:=by
 unfold k8
 split
 ·have:=GP bo bp (a.take co.toNat) (b.take cp.toNat)
  rw [List.length_take,List.length_take] at this
  omega
 ·simp [FoldM.no]
end Go.Esc.M
namespace Go.Esc.M
open Go Go.Esc
def zO (b:Bool) (p:ba):ba:={ p with ours:=b }
theorem yI (b:Bool):∀ (l:List ba) (p:ba),(gX l p).map (zO b) = gX (l.map (zO b)) (zO b p)
 | [],p=>rfl
 | q :: l,p=>by
  have ih:=yI b l p
  unfold gX
  simp only [List.map_cons]
  show _ = if p.id < q.id then _ else _
  split
  ·rfl
  ·rw [List.map_cons,ih]
theorem CJ (b:Bool) (l:List ba):(jO l).map (zO b) = jO (l.map (zO b)):=by
 have:∀ (l acc:List ba),(l.foldl gX acc).map (zO b) = (l.map (zO b)).foldl gX (acc.map (zO b)):=by
  intro l
  induction l with
  | nil=>intro acc; rfl
  | cons p l ih=>intro acc; rw [List.foldl_cons,ih,yI]; rfl
 exact this l []
theorem Al (b m:Bool) (f:aK -> Bool) (l:List aK):(hJ m f l).map (zO b) = hJ b f l:=by
 unfold hJ
 rw [List.map_map]
 rfl
theorem qZ {m:Bool} {f:aK -> Bool} {l:List aK}:∀ p ∈ jO (hJ m f l),p.ours = m:=by
 intro p hp
 have:=(uA (hJ m f l)).1.mem.1 hp
 obtain ⟨u,_,rfl⟩:=List.mem_map.1 this
 rfl
theorem Ab {b:Bool} {l:List ba} (h:∀ p ∈ l,p.ours = !b):jT b l = l.map (zO b):=by
 unfold jT
 rw [List.filter_eq_self.2 fun p hp=>by rw [h p hp]; cases b <;> rfl]
 rfl
theorem yn {b:Bool} {l:List ba} (h:∀ p ∈ l,p.ours = b):jT b l = []:=by
 unfold jT
 rw [List.filter_eq_nil_iff.2 fun p hp=>by rw [h p hp]; cases b <;> decide]
 rfl
theorem D0 (a b:List aK):oN (nJ a b) = nJ b a:=by
 have e1:=yn (b:=true) (l:=jO (hJ true (opens b) a)) qZ
 have e2:=Ab (b:=true) (l:=jO (hJ false (opens a) b)) qZ
 have e3:=Ab (b:=false) (l:=jO (hJ true (opens b) a)) qZ
 have e4:=yn (b:=false) (l:=jO (hJ false (opens a) b)) qZ
 unfold oN nJ
 rw [uw,uw,e1,e2,e3,e4,CJ,CJ,Al,Al,List.nil_append,List.append_nil]
theorem Ex (bo:Int) (a b:List aK):ml bo b a = mT bo a b:=by
 unfold ml mT
 omega
structure LQ (left:Int) (l:List ba):Prop where
 one:∀ p ∈ l,1 ≤ p.amount
 sum:(l.map (·.amount)).sum = left
 ord:∀ j p q,l[j]? = some p -> l[j + 1]? = some q -> ¬ (q.ours = true /\ p.ours = false) /\ (q.ours = p.ours -> p.id ≤ q.id)
theorem GO {bo bp:Int} {a b:List aK} (h:(foldM bo bp a b).e = 0):(∀ u ∈ a,dC u = true) /\ (∀ u ∈ b,dC u = true) /\ 0 ≤ ml bo a b /\ 0 ≤ mT bp a b /\ foldM bo bp a b = ⟨ml bo a b,mT bp a b,nJ a b,0⟩:=by
 unfold foldM at h ⊢
 split at h
 ·cases h
 ·rename_i h1
  rw [if_neg h1]
  split at h
  ·cases h
  ·rename_i h2
   rw [if_neg h2]
   refine ⟨pb ?_,pb ?_,by omega,by omega,rfl⟩
   ·cases hh:lL a with
    | true=>rfl
    | false=>exact absurd (.inl hh) h1
   ·cases hh:lL b with
    | true=>rfl
    | false=>exact absurd (.inr hh) h1
end Go.Esc.M
namespace Go.Esc.M
open Go Go.Esc
theorem qS {α:Type} {l:List α} {n m:Nat} (h:n ≤ m):l.take n ++ (l.take m).drop n = l.take m:=by
 have:l.take n = (l.take m).take n:=by rw [List.take_take,Nat.min_eq_left h]
 rw [this,List.take_append_drop]
theorem nq (f:aK -> Bool) (a b:List aK):gm f (a ++ b) = gm f a + gm f b:=by
 unfold gm
 rw [List.filter_append,List.map_append,List.sum_append]
theorem Fj {f:aK -> Bool} {l:List aK} (h:∀ u ∈ l,0 ≤ u.amount):0 ≤ gm f l:=by
 unfold gm
 induction l with
 | nil=>simp
 | cons u l ih=>
  have ih:=ih fun x hx=>h x (by simp [hx])
  have:=h u (by simp)
  simp only [List.filter_cons]
  split
  ·simp only [List.map_cons,List.sum_cons]; omega
  ·exact ih
theorem sD {f g:aK -> Bool} {l:List aK} (h:∀ u ∈ l,0 ≤ u.amount) (hfg:∀ u ∈ l,f u = true -> g u = true):gm f l ≤ gm g l:=by
 unfold gm
 induction l with
 | nil=>simp
 | cons u l ih=>
  have ih:=ih (fun x hx=>h x (by simp [hx])) fun x hx=>hfg x (by simp [hx])
  have h1:=h u (by simp)
  have h2:=hfg u (by simp)
  simp only [List.filter_cons]
  cases hf:f u with
  | true=>rw [h2 hf]; simp; omega
  | false=>cases hg:g u <;> simp <;> omega
theorem vK {f:aK -> Bool} {l:List aK} (h:∀ u ∈ l,f u = false):gm f l = 0:=by
 unfold gm
 rw [List.filter_eq_nil_iff.2 fun u hu=>by rw [h u hu]; decide]
 rfl
theorem Bn {f:aK -> Bool} {l:List aK} (h:∀ u ∈ l,0 ≤ u.amount) (n:Nat):gm f (l.take n) ≤ gm f l:=by
 have e:gm f l = gm f (l.take n) + gm f (l.drop n):=by rw [<- nq,List.take_append_drop]
 have:=Fj (f:=f) (l:=l.drop n) fun u hu=>h u (List.mem_of_mem_drop hu)
 omega
theorem oZ {id:Int} {l:List aK} {n m:Nat} (h:n ≤ m) (h0:je id (l.take n) ≠ 0):je id (l.take m) = je id (l.take n):=by
 have e:l.take m = l.take n ++ (l.take m).drop n:=(qS h).symm
 rw [e,pQ,if_neg h0]
theorem Eh {id:Int} {l:List aK} (h:je id l ≠ 0):∃ u ∈ l,u.kind ≠ 1 /\ u.id = id:=by
 induction l with
 | nil=>exact absurd rfl h
 | cons u l ih=>
  unfold je at h
  split at h
  ·rename_i hr
   simp only [lr,Bool.and_eq_true,decide_eq_true_eq] at hr
   exact ⟨u,by simp,hr.1,hr.2.1⟩
  ·obtain ⟨w,h1,h2⟩:=ih h
   exact ⟨w,by simp [h1],h2⟩
theorem qh {u:aK} (h:dC u = true):0 ≤ u.amount:=by
 have:=(kO h).2.2
 omega
def jR (l:List aK):Nat:=(l.filter fun u=>decide (u.kind = 1)).length
theorem zB (l:List aK):jR l ≤ l.length:=List.length_filter_le _ _
theorem oU (a b:List aK):jR (a ++ b) = jR a + jR b:=by unfold jR; rw [List.filter_append,List.length_append]
def SB (base:Int) (mine others:List aK) (fm fo:Nat):Int:=base - gm (stays (others.take fo)) mine + gm (jF (mine.take fm)) others
def qy (l:List aK):Prop:=∀ j u,l[j]? = some u -> u.kind = 1 -> u.id = ((jR (l.take j):Nat):Int)
def rU (mine others:List aK) (fo:Nat):Prop:=∀ u ∈ mine,u.kind ≠ 1 -> ∃ w ∈ others.take fo,w.kind = 1 /\ w.id = u.id
structure nQ (b0 b1:Int) (l0 l1:List aK) (f0 f1:Nat):Prop where
 ok0:∀ u ∈ l0,u.ok
 ok1:∀ u ∈ l1,u.ok
 v0:∀ u ∈ l0,dC u = true
 v1:∀ u ∈ l1,dC u = true
 le0:f0 ≤ l0.length
 le1:f1 ≤ l1.length
 m0:l0.length ≤ 2048
 m1:l1.length ≤ 2048
 i0:qy l0
 i1:qy l1
 r0:rU l0 l1 f1
 r1:rU l1 l0 f0
 s0:0 ≤ SB b0 l0 l1 f0 f1
 s1:0 ≤ SB b1 l1 l0 f1 f0
 b0n:0 ≤ b0
 b1n:0 ≤ b1
 bs:b0 + b1 ≤ 1152921504606846976
theorem nQ.swap {b0 b1:Int} {l0 l1:List aK} {f0 f1:Nat} (h:nQ b0 b1 l0 l1 f0 f1):nQ b1 b0 l1 l0 f1 f0 :=
 ⟨h.ok1,h.ok0,h.v1,h.v0,h.le1,h.le0,h.m1,h.m0,h.i1,h.i0,h.r1,h.r0,h.s1,h.s0,h.b1n,h.b0n,by have:=h.bs; omega⟩
theorem Er {l:List aK} (h:qy l) {i j:Nat} {u w:aK} (hi:l[i]? = some u) (hj:l[j]? = some w) (hu:u.kind = 1) (hw:w.kind = 1) (he:u.id = w.id):i = j:=by
 have key:∀ {i j:Nat} {u w:aK},l[i]? = some u -> l[j]? = some w -> u.kind = 1 -> w.kind = 1 -> u.id = w.id -> i < j -> False:=by
  intro i j u w hi hj hu hw he hlt
  have h1:=h i u hi hu
  have h2:=h j w hj hw
  have e:l.take j = l.take (i + 1) ++ (l.take j).drop (i + 1):=(qS hlt).symm
  have h3:jR (l.take (i + 1)) = jR (l.take i) + 1:=by
   rw [List.take_add_one,hi,oU]
   simp [jR,hu]
  rw [e,oU,h3] at h2
  omega
 rcases Nat.lt_trichotomy i j with h1 | h1 | h1
 ·exact (key hi hj hu hw he h1).elim
 ·exact h1
 ·exact (key hj hi hw hu he.symm h1).elim
theorem Gr {mine others:List aK} {fm fo m:Nat} (hi:qy others) (hr:rU mine others fo) (hm:fo ≤ m):∀ u ∈ others.drop m,jF (mine.take fm) u = false:=by
 intro u hu
 cases hp:jF (mine.take fm) u with
 | false=>rfl
 | true=>
  exfalso
  simp only [jF,Bool.and_eq_true,decide_eq_true_eq] at hp
  obtain ⟨x,hx,hx1,hx2⟩:=Eh (by rw [hp.2]; decide:je u.id (mine.take fm) ≠ 0)
  obtain ⟨w,hw,hw1,hw2⟩:=hr x (List.mem_of_mem_take hx) hx1
  obtain ⟨i,hi1⟩:=List.getElem?_of_mem hw
  obtain ⟨j,hj1⟩:=List.getElem?_of_mem hu
  have hil:i < fo:=by
   have:=(List.getElem?_eq_some_iff.1 hi1).1
   rw [List.length_take] at this
   omega
  rw [List.getElem?_take_of_lt hil] at hi1
  rw [List.getElem?_drop] at hj1
  have:=Er hi hi1 hj1 hw1 hp.1 (by rw [hw2,hx2])
  omega
theorem FJ {base:Int} {mine others:List aK} {fm fo n m:Nat} (v0:∀ u ∈ mine,dC u = true) (v1:∀ u ∈ others,dC u = true) (hi:qy others) (hr:rU mine others fo) (hn:fm ≤ n) (hm:fo ≤ m) :
  SB base mine others fm fo ≤ ml base (mine.take n) (others.take m):=by
 unfold SB ml
 have h1:gm (stays (others.take m)) (mine.take n) ≤ gm (stays (others.take fo)) mine:=by
  refine Int.le_trans (sD (fun u hu=>qh (v0 u (List.mem_of_mem_take hu))) fun u hu hs=>?_) (Bn (fun u hu=>qh (v0 u hu)) n)
  simp only [stays,Bool.and_eq_true,decide_eq_true_eq,Bool.not_eq_true',decide_eq_false_iff_not] at hs ⊢
  refine ⟨hs.1,fun h3=>hs.2 ?_⟩
  rw [oZ hm (by rw [h3]; decide),h3]
 have h2:gm (jF (mine.take fm)) others ≤ gm (jF (mine.take n)) (others.take m):=by
  have e:gm (jF (mine.take fm)) others = gm (jF (mine.take fm)) (others.take m) + gm (jF (mine.take fm)) (others.drop m):=by rw [<- nq,List.take_append_drop]
  rw [e,vK (Gr hi hr hm),Int.add_zero]
  refine sD (fun u hu=>qh (v1 u (List.mem_of_mem_take hu))) fun u hu hs=>?_
  simp only [jF,Bool.and_eq_true,decide_eq_true_eq] at hs ⊢
  refine ⟨hs.1,?_⟩
  rw [oZ hn (by rw [hs.2]; decide),hs.2]
 omega
theorem nQ.taken {b0 b1:Int} {l0 l1:List aK} {f0 f1:Nat} (h:nQ b0 b1 l0 l1 f0 f1) {n m:Nat} (hn:f0 ≤ n) (hn2:n ≤ l0.length) (hm:f1 ≤ m) (hm2:m ≤ l1.length):(k8 b0 b1 l0 l1 n m).e = 0 /\ k8 b0 b1 l0 l1 n m = foldM b0 b1 (l0.take n) (l1.take m):=by
 have e:k8 b0 b1 l0 l1 n m = foldM b0 b1 (l0.take n) (l1.take m):=by
  unfold k8
  rw [if_pos ⟨⟨by omega,by omega,by omega,by omega⟩,⟨h.b0n,by have:=h.bs; have:=h.b1n; omega⟩,⟨h.b1n,by have:=h.bs; have:=h.b0n; omega⟩,by have:=h.b0n; have:=h.b1n; omega,h.bs⟩]
  rfl
 refine ⟨?_,e⟩
 rw [e]
 have h0:=FJ (base:=b0) h.v0 h.v1 h.i1 h.r0 hn hm
 have h1:=FJ (base:=b1) h.v1 h.v0 h.i0 h.r1 hm hn
 have g0:=h.s0
 have g1:=h.s1
 rw [Ex] at h1
 have a0:lL (l0.take n) = true:=List.all_eq_true.2 fun u hu=>h.v0 u (List.mem_of_mem_take hu)
 have a1:lL (l1.take m) = true:=List.all_eq_true.2 fun u hu=>h.v1 u (List.mem_of_mem_take hu)
 unfold foldM
 rw [if_neg (by rw [a0,a1]; simp),if_neg (by omega)]
theorem FX {b0 b1:Int} {l0 l1:List aK} {f0 f1:Nat} (h:nQ b0 b1 l0 l1 f0 f1):SB b0 l0 l1 f0 f1 ≤ b0 + b1:=by
 have h1:=pN (l1.take f1) l0
 have h2:=pN (l0.take f0) l1
 have h3:=q8 (r:=l1.take f1) h.v0
 have h4:=q8 (r:=l0.take f0) h.v1
 have h5:=h.s1
 unfold SB at h5 ⊢
 omega
theorem lO (l:List aK) (u:aK) {n:Nat} (h:n ≤ l.length):(l ++ [u]).take n = l.take n:=by
 rw [List.take_append_of_le_length h]
theorem De {l:List aK} {u:aK} (h:qy l) (hu:u.kind = 1 -> u.id = ((jR l:Nat):Int)):qy (l ++ [u]):=by
 intro j w hj hw
 by_cases hjl:j < l.length
 ·rw [List.getElem?_append_left hjl] at hj
  rw [lO l u (by omega)]
  exact h j w hj hw
 ·have hb:=(List.getElem?_eq_some_iff.1 hj).1
  rw [List.length_append,List.length_singleton] at hb
  have:j = l.length:=by omega
  subst this
  rw [List.getElem?_append_right (by omega)] at hj
  simp at hj
  subst hj
  rw [lO l u (Nat.le_refl _),List.take_length]
  exact hu hw
theorem Aj {mine others:List aK} {fo:Nat} {u:aK} (h:rU mine others fo) (hu:u.kind ≠ 1 -> ∃ w ∈ others.take fo,w.kind = 1 /\ w.id = u.id):rU (mine ++ [u]) others fo:=by
 intro x hx hk
 rcases List.mem_append.1 hx with hx | hx
 ·exact h x hx hk
 ·rw [List.mem_singleton.1 hx] at hk ⊢
  exact hu hk
theorem qt {α:Type} {Pr:α -> Prop} {l:List α} {u:α} (h:∀ x ∈ l,Pr x) (hu:Pr u):∀ x ∈ l ++ [u],Pr x:=by
 intro x hx
 rcases List.mem_append.1 hx with hx | hx
 ·exact h x hx
 ·rw [List.mem_singleton.1 hx]; exact hu
theorem nQ.add {b0 b1:Int} {l0 l1:List aK} {f0 f1:Nat} (h:nQ b0 b1 l0 l1 f0 f1) (hl:l0.length < 2048) {u:aK} (hk:u.kind = 1) (hid:u.id = ((jR l0:Nat):Int)) (ho:u.ok) (hv:dC u = true) (ha:u.amount ≤ SB b0 l0 l1 f0 f1):nQ b0 b1 (l0 ++ [u]) l1 f0 f1:=by
 have hnn:=qh hv
 refine ⟨qt h.ok0 ho,h.ok1,qt h.v0 hv,h.v1,by rw [List.length_append]; have:=h.le0; omega,h.le1,by rw [List.length_append,List.length_singleton]; omega,h.m1,De h.i0 fun _=>hid,h.i1,Aj h.r0 fun hh=>absurd hk hh,?_,?_,?_,h.b0n,h.b1n,h.bs⟩
 ·rw [rU,lO l0 u h.le0]; exact h.r1
 ·unfold SB at ha ⊢
  rw [lO l0 u h.le0,nq]
  have:gm (stays (l1.take f1)) [u] ≤ u.amount:=by
   unfold gm
   simp only [List.filter_cons,List.filter_nil]
   split
   ·simp
   ·simp; exact hnn
  omega
 ·have h1:=h.s1
  unfold SB at h1 ⊢
  rw [lO l0 u h.le0,nq]
  have:=Fj (f:=jF (l1.take f1)) (l:=[u]) fun x hx=>by rw [List.mem_singleton.1 hx]; exact hnn
  omega
theorem nQ.rem {b0 b1:Int} {l0 l1:List aK} {f0 f1:Nat} (h:nQ b0 b1 l0 l1 f0 f1) (hl:l0.length < 2048) {u:aK} (hk:u.kind ≠ 1) (hr:∃ w ∈ l1.take f1,w.kind = 1 /\ w.id = u.id) (ho:u.ok) (hv:dC u = true):nQ b0 b1 (l0 ++ [u]) l1 f0 f1:=by
 refine ⟨qt h.ok0 ho,h.ok1,qt h.v0 hv,h.v1,by rw [List.length_append]; have:=h.le0; omega,h.le1,by rw [List.length_append,List.length_singleton]; omega,h.m1,De h.i0 fun hh=>absurd hh hk,h.i1,Aj h.r0 fun _=>hr,?_,?_,?_,h.b0n,h.b1n,h.bs⟩
 ·rw [rU,lO l0 u h.le0]; exact h.r1
 ·have h1:=h.s0
  unfold SB at h1 ⊢
  rw [lO l0 u h.le0,nq,vK (l:=[u]) fun x hx=>by rw [List.mem_singleton.1 hx]; simp [stays,hk]]
  omega
 ·have h1:=h.s1
  unfold SB at h1 ⊢
  rw [lO l0 u h.le0,nq,vK (l:=[u]) fun x hx=>by rw [List.mem_singleton.1 hx]; simp [jF,hk]]
  omega
theorem nQ.fix {b0 b1:Int} {l0 l1:List aK} {f0 f1 g:Nat} (h:nQ b0 b1 l0 l1 f0 f1) (hg:f0 ≤ g) (hg2:g ≤ l0.length):nQ b0 b1 l0 l1 g f1:=by
 refine ⟨h.ok0,h.ok1,h.v0,h.v1,hg2,h.le1,h.m0,h.m1,h.i0,h.i1,h.r0,?_,?_,?_,h.b0n,h.b1n,h.bs⟩
 ·intro u hu hk
  obtain ⟨w,hw,h1⟩:=h.r1 u hu hk
  refine ⟨w,?_,h1⟩
  rw [<- qS hg]
  exact List.mem_append.2 (.inl hw)
 ·have h1:=h.s0
  unfold SB at h1 ⊢
  have:=sD (f:=jF (l0.take f0)) (g:=jF (l0.take g)) (l:=l1) (fun u hu=>qh (h.v1 u hu)) fun u hu hs=>by
   simp only [jF,Bool.and_eq_true,decide_eq_true_eq] at hs ⊢
   refine ⟨hs.1,?_⟩
   rw [oZ hg (by rw [hs.2]; decide),hs.2]
  omega
 ·have h1:=h.s1
  unfold SB at h1 ⊢
  have:=sD (f:=stays (l0.take g)) (g:=stays (l0.take f0)) (l:=l1) (fun u hu=>qh (h.v1 u hu)) fun u hu hs=>by
   simp only [stays,Bool.and_eq_true,decide_eq_true_eq,Bool.not_eq_true',decide_eq_false_iff_not] at hs ⊢
   refine ⟨hs.1,fun h3=>hs.2 ?_⟩
   rw [oZ hg (by rw [h3]; decide),h3]
  omega
theorem CI {base:Int} {mine others:List aK} {fm fo:Nat} (v0:∀ u ∈ mine,dC u = true) (v1:∀ u ∈ others,dC u = true) (hb:0 ≤ base) (hb2:base ≤ 1152921504606846976) :
  Mr base mine others fm fo = Dm (SB base mine others fm fo):=by
 unfold Mr
 rw [if_neg (by omega)]
 have h1:(qE (Bm others fo) mine).sum = gm (stays (others.take fo)) mine:=by
  unfold qE gm
  congr 2
  refine List.filter_congr fun u hu=>?_
  rw [v0 u hu]
  simp [stays,Bm,dP]
  rfl
 have h2:(qE (Bl mine fm) others).sum = gm (jF (mine.take fm)) others:=by
  unfold qE gm
  congr 2
  refine List.filter_congr fun u hu=>?_
  rw [v1 u hu]
  simp [jF,Bl,dP]
  rfl
 have h3:KR base = base:=by unfold KR; rw [if_neg (by omega)]
 rw [h1,h2,h3]
 rfl
end Go.Esc.M
namespace Go.Esc.M
open Go Go.Esc
section
variable {F0:List AId} {G0 G:ah} {ps:List LP} {Q:ag -> ah -> Prop}
end
end Go.Esc.M
namespace Go.Esc.M
open Go Go.Esc
theorem Fi (a b:Int):(sC 0 [a,b]).2 = 0 ↔ amt a /\ amt b /\ amt (a + b):=by
 have h0:right 0 = true:=by decide
 unfold amt
 simp only [sC,plus,h0,Bool.true_and,Int.zero_add]
 cases ha:right a with
 | false=>
  have:¬ (0 ≤ a /\ a ≤ 1152921504606846976):=by simpa [right] using ha
  simp
  omega
 | true=>
  have h1:=kR.1 ha
  cases hb:right b with
  | false=>
   have:¬ (0 ≤ b /\ b ≤ 1152921504606846976):=by simpa [right] using hb
   simp [ha,h1.1,h1.2]
   omega
  | true=>
   have h2:=kR.1 hb
   cases hc:right (a + b) with
   | false=>
    have:¬ (0 ≤ a + b /\ a + b ≤ 1152921504606846976):=by simpa [right] using hc
    simp [ha,hc,h1.1,h1.2,h2.1,h2.2]
    omega
   | true=>
    have h3:=kR.1 hc
    simp [ha,hc,h1.1,h1.2,h2.1,h2.2,h3.1,h3.2]
theorem AG {bo bp:Int} {a b:List aK} (h:lL a = false \/ lL b = false):foldM bo bp a b = .no 120:=if_pos h
theorem AF {bo bp:Int} {a b:List aK} (h:¬ (lL a = false \/ lL b = false)) (h2:ml bo a b < 0 \/ mT bp a b < 0):foldM bo bp a b = .no 130:=by
 unfold foldM
 rw [if_neg h,if_pos h2]
theorem zg {bo bp:Int} {a b:List aK} (h:¬ (lL a = false \/ lL b = false)) (h2:¬ (ml bo a b < 0 \/ mT bp a b < 0)):foldM bo bp a b = ⟨ml bo a b,mT bp a b,nJ a b,0⟩:=by
 unfold foldM
 rw [if_neg h,if_neg h2]
theorem Jr (a b c:ag):aW (.tuple [a,b,c]) 0 = some a:=rfl
theorem Jq (a b c:ag):aW (.tuple [a,b,c]) 1 = some b:=rfl
theorem Jp (a b c:ag):aW (.tuple [a,b,c]) 2 = some c:=rfl
section
variable {F0:List AId} {G0 G:ah} {ps:List LP} {Q:ag -> ah -> Prop}
theorem CQ {l:List ba} (h:∀ p ∈ l,p.ok):Esc.uni 35 (l.map ba.av) = true /\ kT (l.map ba.av) = true:=by
 refine ⟨by simp only [Esc.uni,List.all_map,List.all_eq_true]; intro p hp; simp [ba.sz (h p hp)],?_⟩
 clear h
 induction l with
 | nil=>rfl
 | cons p l ih=>simp [kT,ba.okv,ih]
theorem AD {i:Nat} {v x:ag} {l l':List ba} {K:ag -> ah -> Prop} (hs:Sp F0 G0 ps G) (hi:ps[i]? = some (bj 35 v (l.map ba.av))) (hx:fV 35 G x (l'.map ba.av)) (ho:∀ u ∈ l',u.ok) (hl:(l.length + l'.length) * 56 ≤ 140737488355328) (hK:∀ v' G',Sp F0 G0 (ps.set i (bj 35 v' ((l ++ l').map ba.av))) G' -> K v' G') :
  cc T G aq aq v x K:=by
 have hb:eB.bytes = 56:=rfl
 refine wZ (si:=bU) (ie:=eB) cq rfl fk rfl (by decide) cq (.inr ⟨_,rfl⟩) hs hi hx.elems (CQ ho).1 (CQ ho).2 (by rw [hb,List.length_map,List.length_map]; exact hl) fun s' G' h=>hK s' G' ?_
 rw [List.map_append]
 exact h
theorem gP.use {v w:ag} {bo bp co cp:Int} {ours jA:List aK} (hl:iu 36 G v (ours.map aK.av)) (hp:iu 36 G w (jA.map aK.av)) (hok:∀ u ∈ ours,u.ok) (hok2:∀ u ∈ jA,u.ok) (hlen:ours.length ≤ 1048576) (hlen2:jA.length ≤ 1048576)
  (hQ:∀ x G',Sp [] G [bj 35 x ((k8 bo bp ours jA co cp).l.map ba.av)] G' -> Q (.tuple [gn (k8 bo bp ours jA co cp).o (k8 bo bp ours jA co cp).q x,.int .i64 (k8 bo bp ours jA co cp).e]) G') :
  al P gP.n [.int .i64 bo,.int .i64 bp,v,w,bR co cp] G Q:=by
 refine gP.sound ?_
 unfold gP.S
 rw [Jh,E0]
 obtain ⟨F,hF⟩:∃ F,F = k8 bo bp ours jA co cp:=⟨_,rfl⟩
 rw [<- hF] at hQ
 intro i1 f1
 have s1:=(Sp.nil G).row f1 (bR co cp)
 intro i3 f3
 have s3:=s1.row f3 (gn 0 0 .nilSlice)
 revert s3
 generalize ah.upd _ i3 _ = G4
 intro s3 J99
 have no:∀ (e:Int) (G2:ah) (j:Nat) (ps:List LP),Sp [] G ps G2 -> ps[j]? = some (ar i3 (gn 0 0 .nilSlice)) -> F = .no e -> wv (bk T bc []) fun v17=>wg (ax T G2 bc (.ptr i3 [] 0) v17) fun G18=>wv (lq T G18 bc (.ptr i3 [] 0)) fun v19=>Q (.tuple [v19,.int .i64 e]) G18:=by
  intro e G2 j ps s hj he
  refine ae (v:=gn 0 0 .nilSlice) rfl ?_
  refine my (i:=j) s hj rfl qp fun G18 s18=>?_
  refine ae (ig (i:=j) s18 (by rw [List.getElem?_set_self (List.getElem?_eq_some_iff.1 hj).1]) qp).2.2.2 ?_
  have:=hQ .nilSlice G18
  rw [he] at this
  exact this (((Sp.nil G).tmp s18.ch).nd 35)
 have bad:¬ inC co cp ours jA -> J99 (.bool true) G4:=by
  intro h
  simp -zeta only [J99,aX]
  exact no 1 G4 0 _ s3 rfl (by rw [hF]; unfold k8; rw [if_neg fun hh=>h hh.1])
 have kA:inC co cp ours jA -> J99 (.bool false) G4:=by
  intro hC
  simp -zeta only [J99,aM]
  refine FR (T:=T) (ts:=nW) (e:=me) (si:=nj) (ie:=jy) (a:=.int .i64 bo) (b:=.int .i64 bp) uh rfl cA rfl s3 rfl rfl (by decide) fun v20 G21 s21=>?_
  refine iz.use (xs:=[bo,bp]) (bj.own (i:=0) s21 rfl).is (by simp) ?_
  refine ae (Kh _) ?_
  refine ae (Kg _) ?_
  rw [dy,aa,fg]
  refine ⟨fun h=>no 1 G21 1 _ s21 rfl (by rw [hF]; unfold k8; rw [if_neg fun hh=>h ((Fi bo bp).2 hh.2)]),fun h=>?_⟩
  have hA:=(Fi bo bp).1 h
  have hFM:F = foldM bo bp (ours.take co.toNat) (jA.take cp.toNat):=by rw [hF]; unfold k8; rw [if_pos ⟨hC,hA⟩]
  obtain ⟨c1,c2,c3,c4⟩:=hC
  obtain ⟨l1,l2,_⟩:=kU (ar.own (i:=2) s21 rfl)
  refine ae l1 ?_
  obtain ⟨va,ea,ca⟩:=iu.take (ie:=dA) (k:=.i64) (m:=co.toNat) (x:=co) cn rfl fC hl (by omega) (by rw [List.length_map]; omega)
  refine ae ea ?_
  refine ae l2 ?_
  obtain ⟨vb,eb,cb⟩:=iu.take (ie:=dA) (k:=.i64) (m:=cp.toNat) (x:=cp) cn rfl fC hp (by omega) (by rw [List.length_map]; omega)
  refine ae eb ?_
  rw [<- List.map_take] at ca cb
  obtain ⟨A,hAd⟩:∃ A,A = ours.take co.toNat:=⟨_,rfl⟩
  obtain ⟨B,hBd⟩:∃ A,A = jA.take cp.toNat:=⟨_,rfl⟩
  rw [<- hAd] at ca hFM
  rw [<- hBd] at cb hFM
  have okA:∀ u ∈ A,u.ok:=by rw [hAd]; exact fun u hu=>hok u (List.mem_of_mem_take hu)
  have okB:∀ u ∈ B,u.ok:=by rw [hBd]; exact fun u hu=>hok2 u (List.mem_of_mem_take hu)
  have lA:A.length ≤ 1048576:=by rw [hAd,List.length_take]; omega
  have lB:B.length ≤ 1048576:=by rw [hBd,List.length_take]; omega
  have iA:fV 36 G va (A.map aK.av):=ca.jf
  have iB:fV 36 G vb (B.map aK.av):=cb.jf
  intro J98
  have s21:Sp [] G [bj 1 v20 [.int .i64 bo,.int .i64 bp],ar i3 (gn 0 0 .nilSlice),ar i1 (bR co cp)] G21:=s21
  have bad2:∀ G2,Sp [] G [bj 1 v20 [.int .i64 bo,.int .i64 bp],ar i3 (gn 0 0 .nilSlice),ar i1 (bR co cp)] G2 -> (lL A = false \/ lL B = false) -> J98 (.bool true) G2:=by
   intro G2 s2 h
   simp -zeta only [J98,aX]
   exact no 120 G2 1 _ s2 rfl (by rw [hFM,AG h])
  have good2:∀ G2,Sp [] G [bj 1 v20 [.int .i64 bo,.int .i64 bp],ar i3 (gn 0 0 .nilSlice),ar i1 (bR co cp)] G2 -> ¬ (lL A = false \/ lL B = false) -> J98 (.bool false) G2:=by
   intro G2 s2 h
   have vA:lL A = true:=by
    cases hh:lL A with
    | true=>rfl
    | false=>exact absurd (.inl hh) h
   have vB:lL B = true:=by
    cases hh:lL B with
    | true=>rfl
    | false=>exact absurd (.inr hh) h
   have aA:=pb vA
   have aB:=pb vB
   simp -zeta only [J98,aM]
   refine eF.use (iB.ch' s2.ch) okB lB fun mid1 es1 G44 hes1 t44=>?_
   obtain ⟨F44,o44,k44⟩:=t44.out
   have s44:=s2.new o44 k44
   refine ae (v:=bR 0 0) rfl ?_
   refine cR.use (n:=0) ⟨by decide,by decide,by decide,by decide⟩ (by decide) hA.1 fun u0 l0 G47 c47 hw0 ht0=>?_
   have s47:=s44.tmp c47
   refine ae (v:=bR 0 0) rfl ?_
   refine cR.use (n:=0) ⟨by decide,by decide,by decide,by decide⟩ (by decide) hA.2.1 fun u1 l1 G50 c50 hw1 ht1=>?_
   have s50:=s47.tmp c50
   have ht0:om u0 l0 = bo:=by rw [ht0]; unfold om; omega
   have ht1:om u1 l1 = bp:=by rw [ht1]; unfold om; omega
   refine gD.use (n:=0 + 1) (iA.ch' s50.ch) okA aA lA (mX.own (i:=0) s50 rfl) hes1 hw0 hw1 (by decide) fun a b d e w1 G52 x1 x2 y1 y2 t52=>?_
   obtain ⟨F52,o52,k52⟩:=t52.out
   have s52:=s50.new o52 k52
   rw [ht0] at y1
   rw [ht1] at y2
   refine ae (Jr _ _ _) ?_
   refine ae (Jq _ _ _) ?_
   refine ae (Jp _ _ _) ?_
   intro i56 f56
   have s57:=s52.row f56 (bR 0 0)
   intro i58 f58
   have s59:=s57.row f58 (bR 0 0)
   refine kN (i:=1) s59 rfl fun G60 s60=>?_
   refine kN (i:=0) s60 rfl fun G61 s61=>?_
   have s61:Sp [] G [ar i58 (bR d e),ar i56 (bR a b),bj 35 w1 ((jO (hJ true (opens B) A)).map ba.av),mX mid1 (oR es1),bj 1 v20 [.int .i64 bo,.int .i64 bp],ar i3 (gn 0 0 .nilSlice),ar i1 (bR co cp)] G61:=s61
   refine ae (dD (ar.own (i:=0) s61 rfl) fG rfl).2.2 ?_
   refine ae (dD (ar.own (i:=1) s61 rfl) fG rfl).2.2 ?_
   refine eF.use (iA.ch' s61.ch) okA lA fun mid2 es2 G65 hes2 t65=>?_
   obtain ⟨F65,o65,k65⟩:=t65.out
   have s65:=s61.new o65 k65
   refine ⟨⟨(dD (ar.own (i:=2) s65 rfl) fG rfl).2.2,(dD (ar.own (i:=1) s65 rfl) fG rfl).2.2,trivial⟩,?_⟩
   refine gD.use (n:=0 + 1 + A.length) (iB.ch' s65.ch) okB aB lB (mX.own (i:=0) s65 rfl) hes2 x2 x1 (by omega) fun a2 b2 d2 e2 w2 G67 z1 z2 q1 q2 t67=>?_
   obtain ⟨F67,o67,k67⟩:=t67.out
   have s67:=s65.new o67 k67
   rw [y2] at q1
   rw [y1] at q2
   refine ae (Jr _ _ _) ?_
   refine ae (Jq _ _ _) ?_
   refine ae (Jp _ _ _) ?_
   refine kN (i:=2) s67 rfl fun G71 s71=>?_
   refine kN (i:=3) s71 rfl fun G72 s72=>?_
   have s72:Sp [] G [bj 35 w2 ((jO (hJ false (opens A) B)).map ba.av),mX mid2 (oR es2),ar i58 (bR a2 b2),ar i56 (bR d2 e2),bj 35 w1 ((jO (hJ true (opens B) A)).map ba.av),mX mid1 (oR es1),bj 1 v20 [.int .i64 bo,.int .i64 bp],ar i3 (gn 0 0 .nilSlice),ar i1 (bR co cp)] G72:=s72
   have qX:om d2 e2 = ml bo A B:=by rw [q2]; unfold ml; omega
   have qY:om a2 b2 = mT bp A B:=by rw [q1]; unfold mT; omega
   refine ae (dD (ar.own (i:=3) s72 rfl) fG rfl).2.2 ?_
   refine ae (dD (ar.own (i:=2) s72 rfl) fG rfl).2.2 ?_
   refine cZ.use z2 (by omega) fun G76 c76=>?_
   have s76:=s72.tmp c76
   refine ⟨⟨(dD (ar.own (i:=2) s76 rfl) fG rfl).2.2,trivial⟩,?_⟩
   refine cZ.use z1 (by omega) fun G78 c78=>?_
   have s78:=s76.tmp c78
   rw [qX,qY]
   have hlo:=vZ A B
   unfold nJ at hlo
   rw [List.length_append] at hlo
   refine AD (i:=4) s78 rfl (bj.own (i:=0) s78 rfl).is (rQ (qm okB)) (by omega) fun w3 G80 s80=>?_
   have s80:Sp [] G [bj 35 w2 ((jO (hJ false (opens A) B)).map ba.av),mX mid2 (oR es2),ar i58 (bR a2 b2),ar i56 (bR d2 e2),bj 35 w3 ((nJ A B).map ba.av),mX mid1 (oR es1),bj 1 v20 [.int .i64 bo,.int .i64 bp],ar i3 (gn 0 0 .nilSlice),ar i1 (bR co cp)] G80:=s80
   have lw3:=(bj.own (i:=4) s80 rfl).leaf
   refine ae (AQ lw3.1) ?_
   intro i82 f82
   have s83:=s80.row f82 (gn 0 0 .nilSlice)
   refine my (i:=0) s83 rfl rfl lw3 fun G84 s84=>?_
   have s84:Sp [] G [ar i82 (gn (pY (ml bo A B)) (pY (mT bp A B)) w3),bj 35 w2 ((jO (hJ false (opens A) B)).map ba.av),mX mid2 (oR es2),ar i58 (bR a2 b2),ar i56 (bR d2 e2),bj 35 w3 ((nJ A B).map ba.av),mX mid1 (oR es1),bj 1 v20 [.int .i64 bo,.int .i64 bp],ar i3 (gn 0 0 .nilSlice),ar i1 (bR co cp)] G84:=s84
   obtain ⟨X,hX⟩:∃ X,X = ml bo A B:=⟨_,rfl⟩
   obtain ⟨Y,hY⟩:∃ Y,Y = mT bp A B:=⟨_,rfl⟩
   have hfl:=BS (bo:=bo) (bp:=bp) aA aB hA.2.2.2
   have hlow:=AF (bo:=bo) (bp:=bp) h
   have hfine:=zg (bo:=bo) (bp:=bp) h
   rw [<- hX,<- hY] at s84 hfl hlow hfine
   intro J97
   have low:(X < 0 \/ Y < 0) -> J97 (.bool true) G84:=by
    intro hh
    simp -zeta only [J97,aX]
    exact no 130 G84 8 _ s84 rfl (by rw [hFM,hlow hh])
   have fine:¬ (X < 0 \/ Y < 0) -> J97 (.bool false) G84:=by
    intro hh
    simp -zeta only [J97,aM]
    have eX:=(qL (t:=X) (by omega) (hfl.1 (by omega))).1
    have eY:=(qL (t:=Y) (by omega) (hfl.2 (by omega))).1
    rw [eX,eY] at s84
    refine ae (ig (i:=0) s84 rfl lw3).2.2.2 ?_
    refine my (i:=8) s84 rfl rfl lw3 fun G95 s95=>?_
    refine ae (ig (i:=8) s95 rfl lw3).2.2.2 ?_
    have hF2:F = ⟨X,Y,nJ A B,0⟩:=by rw [hFM,hfine hh]
    rw [hF2] at hQ
    refine hQ w3 G95 ?_
    exact ((((((((s95.erase 0).erase 0).erase 0).erase 0).erase 0).erase 1).erase 1).erase 1).erase 1
   refine ae (ig (i:=0) s84 rfl lw3).1 ?_
   rw [aH,aa]
   by_cases h1:pY X < 0
   ·rw [decide_eq_true h1,aX]
    exact low (.inl ((sr X).1 h1))
   ·rw [decide_eq_false h1,aM]
    refine ae (ig (i:=0) s84 rfl lw3).2.1 ?_
    rw [aH,aa]
    by_cases h2:pY Y < 0
    ·rw [decide_eq_true h2]
     exact low (.inr ((sr Y).1 h2))
    ·rw [decide_eq_false h2]
     exact fine fun hh=>hh.elim (fun q=>h1 ((sr X).2 q)) (fun q=>h2 ((sr Y).2 q))
  refine contains.use (iA.ch' s21.ch) okA lA fun G35 c35=>?_
  have s35:=s21.tmp c35
  cases vA:lL A with
  | false=>exact bad2 _ s35 (.inl vA)
  | true=>
   rw [Bool.not_true,aM]
   refine contains.use (iB.ch' s35.ch) okB lB fun G37 c37=>?_
   have s37:=s35.tmp c37
   cases vB:lL B with
   | false=>exact bad2 _ s37 (.inr vB)
   | true=>exact good2 _ s37 (by rw [vA,vB]; simp)
 obtain ⟨l1,l2,_⟩:=kU (ar.own (i:=1) s3 rfl)
 refine ae l1 ?_
 rw [aH,aa,aE]
 refine ⟨fun h=>bad fun hh=>by have:=hh.1; omega,fun h1=>?_⟩
 refine ae l1 ?_
 refine ae (fy (hl.jf.ch' s3.ch)) ?_
 rw [de,aa,aE]
 refine ⟨fun h=>bad fun hh=>by have:=hh.2.1; omega,fun h2=>?_⟩
 refine ae l2 ?_
 rw [aH,aa,aE]
 refine ⟨fun h=>bad fun hh=>by have:=hh.2.2.1; omega,fun h3=>?_⟩
 refine ae l2 ?_
 refine ae (fy (hp.jf.ch' s3.ch)) ?_
 rw [de,aa]
 by_cases h4:(jA.length:Int) < cp
 ·rw [decide_eq_true h4]
  exact bad fun hh=>by have:=hh.2.2.2; omega
 ·rw [decide_eq_false h4]
  exact kA ⟨by omega,by omega,by omega,by omega⟩
end
end Go.Esc.M
