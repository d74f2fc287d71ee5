import Derived.Test.YtkojimdacnohpaaGreatDoorEZ
import Derived.Test.YtkojimdacnohpaaGreatDoorSS
import Derived.Test.YtkojimdacnohpaaGreatDoorLHb
set_option linter.unusedSimpArgs false
set_option linter.unusedVariables false
set_option maxRecDepth 20000
namespace Go.Esc.M
open Go Go.Esc
def be:Nat -> Nat -> List UInt8
 | 0,_=>[]
 | k + 1,v=>UInt8.ofNat (v / 2 ^ (8 * k)) :: be k v
theorem hI (v:Nat):∀ k,(be k v).length = k
 | 0=>rfl
 | k + 1=>by simp [be,hI v k]
theorem uD (v i:Nat) (hi:i ≤ 7):IntKind.u8.wrap ((v:Int).fdiv (2 ^ min ((8:Int) * (i:Int)).toNat IntKind.u64.bits)) = ((v / 2 ^ (8 * i) % 256:Nat):Int):=by
 have h1:min ((8:Int) * (i:Int)).toNat IntKind.u64.bits = 8 * i:=by
  have:IntKind.u64.bits = 64:=rfl
  omega
 rw [h1,IntKind.wrap_u8]
 have h2:((2:Int) ^ (8 * i)) = ((2 ^ (8 * i):Nat):Int):=by simp
 rw [h2,Int.fdiv_eq_ediv_of_nonneg _ (Int.natCast_nonneg _)]
 simp
def laid (st:List UInt8 × Int) (xs:List UInt8):List UInt8 × Int:=if st.2 = 0 then (st.1 ++ xs,0) else st
def Wr (id:AId) (st:List UInt8 × Int) (G:ah) (F:List AId):Prop:=WrP id st.1 st.2 G F
theorem WrP.fault {id:AId} {bs:List UInt8} {f:Int} {G:ah} {F:List AId} (h:WrP id bs f G F):lq T G bq (.ptr id [1] 1) = some (.int .i64 f):=by
 obtain ⟨s,hg,ho,_⟩:=h
 exact dQ hg rfl (by simp [szs,ho.leaf.1]) rfl sk rfl
theorem WrP.load {id:AId} {bs:List UInt8} {f:Int} {G:ah} {F:List AId} (h:WrP id bs f G F) :
  ∃ s,lq T G aP (.ptr id [0] 0) = some s /\ G id = some (.own (.agg [s,.int .i64 f])) /\ Own 1 G s (bs.map u8v) /\ rowOf s ≠ some id /\ F = id :: (rowOf s).toList:=by
 obtain ⟨s,hg,ho,hne,hF⟩:=h
 exact ⟨s,dQ hg rfl rfl rfl fu (by simp [fa,ho.leaf.1,ho.leaf.2.1,fS,j4.isAgg]),hg,ho,hne,hF⟩
theorem y4 {id:AId} {bs:List UInt8} {f:Int} {G:ah} {F:List AId} (h:WrP id bs f G F) (hb:bs.length + 1 ≤ 140737488355328) :
  ∃ s,lq T G aP (.ptr id [0] 0) = some s /\ ∀ (b:UInt8) (K:ah -> Prop),(∀ F' G',WrP id (bs ++ [b]) f G' F' -> Ch F G F' G' -> K G') ->
   bh T aP 1 [(0,u8v b)] G fun v G1=>cc T G1 aP aP s v fun v2 G2=>wg (ax T G2 aP (.ptr id [0] 0) v2) K:=by
 obtain ⟨s,hl,hg,ho,hne,rfl⟩:=WrP.load h
 refine ⟨s,hl,fun b K hK=>?_⟩
 refine B6 (T:=T) (ts:=aP) (e:=cg) (si:=fS) (ie:=fY) fu rfl dz rfl (by decide) ho rfl rfl (by decide) ?_ fun s' G2 ho2 hk=>?_
 ·simp only [List.length_map,fY]
  omega
 ·obtain ⟨G',hst,hw,hch⟩:=WrP.put (T:=T) (tb:=aP) (ib:=fS) fu (.inr rfl) rfl (bs':=bs ++ [b]) hg hne ho.leaf.1 (by rw [List.map_append]; exact ho2) hk
  rw [hst,iI]
  exact hK _ _ hw hch
theorem HV {id:AId} {bs xs:List UInt8} {f:Int} {G:ah} {F:List AId} (h:WrP id bs f G F) (hb:bs.length + xs.length ≤ 140737488355328) :
  ∃ s,lq T G aP (.ptr id [0] 0) = some s /\ ∀ (K:ah -> Prop),(∀ F' G',WrP id (bs ++ xs) f G' F' -> Ch F G F' G' -> K G') ->
   cc T G aP bH s (.str xs) fun v2 G2=>wg (ax T G2 aP (.ptr id [0] 0) v2) K:=by
 obtain ⟨s,hl,hg,ho,hne,rfl⟩:=WrP.load h
 refine ⟨s,hl,fun K hK=>?_⟩
 refine q6 (T:=T) (e:=cg) (si:=fS) (ie:=fY) (vs:=xs.map u8v) fu rfl dz rfl (by decide) fZ (.inl rfl) ho (by simp [fT,fY,u8v,Function.comp_def]) (ji _) (jx _) ?_ fun s' G2 ho2 hk=>?_
 ·simp only [List.length_map,fY]
  omega
 ·obtain ⟨G',hst,hw,hch⟩:=WrP.put (T:=T) (tb:=aP) (ib:=fS) fu (.inr rfl) rfl (bs':=bs ++ xs) hg hne ho.leaf.1 (by rw [List.map_append]; exact ho2) hk
  rw [hst,iI]
  exact hK _ _ hw hch
theorem iy.use {G:ah} {Q:ag -> ah -> Prop} (h:∀ id G',Wr id ([],0) G' [id] -> Ch [] G [id] G' -> Q (.ptr id [] 0) G'):al P iy.n [] G Q:=by
 refine iy.sound ?_
 unfold iy.S
 intro id hf
 exact h _ _ ⟨.nilSlice,ah.fc _ _ _,.inl ⟨rfl,rfl⟩,by simp [rowOf],rfl⟩ (Ch.new hf)
theorem eZ.use {id:AId} {st:List UInt8 × Int} {v k:Nat} {G:ah} {F:List AId} {Q:ag -> ah -> Prop} (hv:v < 2 ^ 8) (hk:k ≤ 8) (h:Wr id st G F) (hb:st.1.length + k ≤ 140737488355328)
  (hQ:∀ F' G',Wr id (laid st (be k v)) G' F' -> Ch F G F' G' -> Q (.tuple []) G'):al P eZ.n [.ptr id [] 0,.int .u8 v,.int .i64 k] G Q:=by
 refine eZ.sound ?_
 unfold eZ.S
 obtain ⟨bs,f⟩:=st
 have hf:=WrP.fault h
 show wv (lq T G bq (.ptr id [1] 1)) _
 rw [hf]
 simp -zeta only [aa,dy,fg,bS]
 refine ⟨fun h0=>?_,fun h0=>?_⟩
 ·refine hQ F G ?_ (Ch.refl _ _)
  simpa [laid,h0,Wr] using h
 ·subst h0
  intro R hR
  rw [i64_in (by omega) (by omega)]
  have hb:bs.length + k ≤ 140737488355328:=hb
  have loop:∀ (i:Nat) (bs':List UInt8) (F':List AId) (G':ah),i ≤ k -> bs'.length + i ≤ 140737488355328 -> WrP id bs' 0 G' F' -> Ch F G F' G' -> bs ++ be k v = bs' ++ be i v ->
    R [.ptr id [] 0,.int .u8 v,.int .i64 ((i:Int) - 1)] G':=by
   intro i
   induction i with
   | zero=>
    intro bs' F' G' _ _ hw hch he
    refine hR _ _ _ _ ?_
    simp -zeta only [gq,aa,aE]
    refine ⟨fun h=>absurd h (by omega),fun _=>hQ F' G' ?_ hch⟩
    simp only [be,List.append_nil] at he
    simp only [laid,if_true,Wr,he]
    exact hw
   | succ i ih=>
    intro bs' F' G' hi hb' hw hch he
    refine hR _ _ _ _ ?_
    have ei:((i + 1:Nat):Int) - 1 = (i:Int):=by omega
    rw [ei]
    simp -zeta only [gq,aa,aE]
    refine ⟨fun _=>?_,fun h=>absurd (by omega) h⟩
    obtain ⟨s,hl,hstep⟩:=y4 hw (by omega)
    show wv (lq T G' aP (.ptr id [0] 0)) _
    rw [hl,aa]
    rw [iF dz mW rfl,aa,u64_in (by omega) (by omega)]
    rw [jL,aa,i64_in (by omega) (by omega),l9 _ _ _ _ _ _ (by omega),aa,iF mW dz rfl,aa,uD v i (by omega),<- lM]
    refine hstep _ _ fun F2 G2 hw2 hch2=>?_
    show wv (aw T .sub au (.int .i64 i) (.int .i64 1)) _
    simp -zeta only [bS,aa]
    rw [i64_in (by omega) (by omega)]
    refine ih _ F2 G2 (by omega) (by simp; omega) hw2 (hch.trans hch2) ?_
    rw [he,be]
    simp
  exact loop k bs F G (Nat.le_refl _) (by omega) h (Ch.refl _ _) rfl
theorem eh.use {id:AId} {st:List UInt8 × Int} {v k:Nat} {G:ah} {F:List AId} {Q:ag -> ah -> Prop} (hv:v < 2 ^ 16) (hk:k ≤ 8) (h:Wr id st G F) (hb:st.1.length + k ≤ 140737488355328)
  (hQ:∀ F' G',Wr id (laid st (be k v)) G' F' -> Ch F G F' G' -> Q (.tuple []) G'):al P eh.n [.ptr id [] 0,.int .u16 v,.int .i64 k] G Q:=by
 refine eh.sound ?_
 unfold eh.S
 obtain ⟨bs,f⟩:=st
 have hf:=WrP.fault h
 show wv (lq T G bq (.ptr id [1] 1)) _
 rw [hf]
 simp -zeta only [aa,dy,fg,bS]
 refine ⟨fun h0=>?_,fun h0=>?_⟩
 ·refine hQ F G ?_ (Ch.refl _ _)
  simpa [laid,h0,Wr] using h
 ·subst h0
  intro R hR
  rw [i64_in (by omega) (by omega)]
  have hb:bs.length + k ≤ 140737488355328:=hb
  have loop:∀ (i:Nat) (bs':List UInt8) (F':List AId) (G':ah),i ≤ k -> bs'.length + i ≤ 140737488355328 -> WrP id bs' 0 G' F' -> Ch F G F' G' -> bs ++ be k v = bs' ++ be i v ->
    R [.ptr id [] 0,.int .u16 v,.int .i64 ((i:Int) - 1)] G':=by
   intro i
   induction i with
   | zero=>
    intro bs' F' G' _ _ hw hch he
    refine hR _ _ _ _ ?_
    simp -zeta only [gq,aa,aE]
    refine ⟨fun h=>absurd h (by omega),fun _=>hQ F' G' ?_ hch⟩
    simp only [be,List.append_nil] at he
    simp only [laid,if_true,Wr,he]
    exact hw
   | succ i ih=>
    intro bs' F' G' hi hb' hw hch he
    refine hR _ _ _ _ ?_
    have ei:((i + 1:Nat):Int) - 1 = (i:Int):=by omega
    rw [ei]
    simp -zeta only [gq,aa,aE]
    refine ⟨fun _=>?_,fun h=>absurd (by omega) h⟩
    obtain ⟨s,hl,hstep⟩:=y4 hw (by omega)
    show wv (lq T G' aP (.ptr id [0] 0)) _
    rw [hl,aa]
    rw [iF DH mW rfl,aa,u64_in (by omega) (by omega)]
    rw [jL,aa,i64_in (by omega) (by omega),l9 _ _ _ _ _ _ (by omega),aa,iF mW dz rfl,aa,uD v i (by omega),<- lM]
    refine hstep _ _ fun F2 G2 hw2 hch2=>?_
    show wv (aw T .sub au (.int .i64 i) (.int .i64 1)) _
    simp -zeta only [bS,aa]
    rw [i64_in (by omega) (by omega)]
    refine ih _ F2 G2 (by omega) (by simp; omega) hw2 (hch.trans hch2) ?_
    rw [he,be]
    simp
  exact loop k bs F G (Nat.le_refl _) (by omega) h (Ch.refl _ _) rfl
theorem eg.use {id:AId} {st:List UInt8 × Int} {v k:Nat} {G:ah} {F:List AId} {Q:ag -> ah -> Prop} (hv:v < 2 ^ 64) (hk:k ≤ 8) (h:Wr id st G F) (hb:st.1.length + k ≤ 140737488355328)
  (hQ:∀ F' G',Wr id (laid st (be k v)) G' F' -> Ch F G F' G' -> Q (.tuple []) G'):al P eg.n [.ptr id [] 0,.int .u64 v,.int .i64 k] G Q:=by
 refine eg.sound ?_
 unfold eg.S
 obtain ⟨bs,f⟩:=st
 have hf:=WrP.fault h
 show wv (lq T G bq (.ptr id [1] 1)) _
 rw [hf]
 simp -zeta only [aa,dy,fg,bS]
 refine ⟨fun h0=>?_,fun h0=>?_⟩
 ·refine hQ F G ?_ (Ch.refl _ _)
  simpa [laid,h0,Wr] using h
 ·subst h0
  intro R hR
  rw [i64_in (by omega) (by omega)]
  have hb:bs.length + k ≤ 140737488355328:=hb
  have loop:∀ (i:Nat) (bs':List UInt8) (F':List AId) (G':ah),i ≤ k -> bs'.length + i ≤ 140737488355328 -> WrP id bs' 0 G' F' -> Ch F G F' G' -> bs ++ be k v = bs' ++ be i v ->
    R [.ptr id [] 0,.int .u64 v,.int .i64 ((i:Int) - 1)] G':=by
   intro i
   induction i with
   | zero=>
    intro bs' F' G' _ _ hw hch he
    refine hR _ _ _ _ ?_
    simp -zeta only [gq,aa,aE]
    refine ⟨fun h=>absurd h (by omega),fun _=>hQ F' G' ?_ hch⟩
    simp only [be,List.append_nil] at he
    simp only [laid,if_true,Wr,he]
    exact hw
   | succ i ih=>
    intro bs' F' G' hi hb' hw hch he
    refine hR _ _ _ _ ?_
    have ei:((i + 1:Nat):Int) - 1 = (i:Int):=by omega
    rw [ei]
    simp -zeta only [gq,aa,aE]
    refine ⟨fun _=>?_,fun h=>absurd (by omega) h⟩
    obtain ⟨s,hl,hstep⟩:=y4 hw (by omega)
    show wv (lq T G' aP (.ptr id [0] 0)) _
    rw [hl,aa]
    rw [jL,aa,i64_in (by omega) (by omega),l9 _ _ _ _ _ _ (by omega),aa,iF mW dz rfl,aa,uD v i (by omega),<- lM]
    refine hstep _ _ fun F2 G2 hw2 hch2=>?_
    show wv (aw T .sub au (.int .i64 i) (.int .i64 1)) _
    simp -zeta only [bS,aa]
    rw [i64_in (by omega) (by omega)]
    refine ih _ F2 G2 (by omega) (by simp; omega) hw2 (hch.trans hch2) ?_
    rw [he,be]
    simp
  exact loop k bs F G (Nat.le_refl _) (by omega) h (Ch.refl _ _) rfl
theorem ek.use {id:AId} {st:List UInt8 × Int} {xs:List UInt8} {G:ah} {F:List AId} {Q:ag -> ah -> Prop} (h:Wr id st G F) (hb:st.1.length + xs.length ≤ 140737488355328)
  (hQ:∀ F' G',Wr id (laid st xs) G' F' -> Ch F G F' G' -> Q (.tuple []) G'):al P ek.n [.ptr id [] 0,.str xs] G Q:=by
 refine ek.sound ?_
 unfold ek.S
 obtain ⟨bs,f⟩:=st
 have hf:=WrP.fault h
 show wv (lq T G bq (.ptr id [1] 1)) _
 rw [hf]
 simp -zeta only [aa,bC,aE]
 refine ⟨fun h0=>?_,fun h0=>?_⟩
 ·obtain ⟨s,hl,hstep⟩:=HV h hb
  show wv (lq T G aP (.ptr id [0] 0)) _
  rw [hl,aa]
  refine hstep _ fun F' G' hw hch=>hQ F' G' ?_ hch
  simpa [laid,h0,Wr] using hw
 ·refine hQ F G ?_ (Ch.refl _ _)
  simpa [laid,h0,Wr] using h
end Go.Esc.M
namespace Go.Esc.M
open Go Go.Esc
theorem wK {T:Tbl} {G:ah} {s d e:TypeId} {si di ie:TI} {v:ag} {l:List UInt8} (hs:T s = some si) (hsd:si.desc = .slice e) (he:T e = some ie) (hed:ie.desc = .int .u8) (hd:T d = some di) (hdd:di.desc = .string)
  (h:fV 1 G v (l.map u8v)):gi T G s d v = some (.str l):=by
 rcases h with ⟨id,p,st,off,len,cap,rfl,h⟩ | ⟨rfl,hl⟩
 ·simp [gi,hs,hd,hdd,hsd,he,hed,h,ue]
 ·have:l = []:=by simpa using hl
  subst this
  simp [gi,hs,hd,hdd,hsd,he,hed]
theorem Wr.ch {id:AId} {st:List UInt8 × Int} {G G':ah} {F E E':List AId} (h:Wr id st G F) (hc:Ch E G E' G') (hd:∀ j ∈ F,j ∉ E):Wr id st G' F:=WrP.frame h (hc.same (WrP.rows h) hd)
section
variable {id:AId} {st:List UInt8 × Int} {G:ah} {F:List AId} {Q:ag -> ah -> Prop}
theorem dg.use {v:Nat} (hv:v < 2 ^ 8) (h:Wr id st G F) (hb:st.1.length + 8 ≤ 140737488355328) (hQ:∀ F' G',Wr id (laid st (be 1 v)) G' F' -> Ch F G F' G' -> Q (.tuple []) G') :
  al P dg.n [.ptr id [] 0,.int .u8 v] G Q:=dg.sound (eZ.use (k:=1) hv (by omega) h (by omega) hQ)
theorem eL.use {v:Nat} (hv:v < 2 ^ 16) (h:Wr id st G F) (hb:st.1.length + 8 ≤ 140737488355328) (hQ:∀ F' G',Wr id (laid st (be 2 v)) G' F' -> Ch F G F' G' -> Q (.tuple []) G') :
  al P eL.n [.ptr id [] 0,.int .u16 v] G Q:=eL.sound (eh.use (k:=2) hv (by omega) h (by omega) hQ)
def jr (n:Int):Nat:=(n % 18446744073709551616).toNat
theorem Hh (n:Int):jr n < 2 ^ 64:=by
 unfold jr
 omega
theorem Ce (n:Int):IntKind.u64.wrap n = (jr n:Int):=by
 rw [qJ]
 unfold jr
 omega
theorem bZ.use {v:Int} (h:Wr id st G F) (hb:st.1.length + 8 ≤ 140737488355328) (hQ:∀ F' G',Wr id (laid st (be 8 (jr v))) G' F' -> Ch F G F' G' -> Q (.tuple []) G') :
  al P bZ.n [.ptr id [] 0,.int .i64 v] G Q:=by
 refine bZ.sound ?_
 unfold bZ.S
 rw [iF cA mW rfl,aa,Ce]
 exact eg.use (k:=8) (Hh v) (by omega) h (by omega) hQ
theorem cG.use {hs:List UInt8} (hl:hs.length = 32) (h:Wr id st G F) (hb:st.1.length + 32 ≤ 140737488355328) (hQ:∀ F' G',Wr id (laid st hs) G' F' -> Ch F G F' G' -> Q (.tuple []) G') :
  al P cG.n [.ptr id [] 0,.agg (hs.map u8v)] G Q:=by
 refine cG.sound ?_
 unfold cG.S
 intro i hf
 have hch:Ch [] G [] (G.upd i (.own (.agg (hs.map u8v)))):=⟨n6.of_le (hf.le _),fun j x hj _=>hf.le _ _ _ hj,fun j hj=>by simp at hj⟩
 have hsl:fV 1 (G.upd i (.own (.agg (hs.map u8v)))) (.slice i [] 0 0 32 32) (hs.map u8v):=by
  have:=pv (n:=1) (cap:=32) (len:=32) (ah.fc G i (.own (.agg (hs.map u8v)))) rfl (ji hs) (by simp [hl])
  rwa [List.take_of_length_le (by simp [hl])] at this
 show wv (gi T _ aP bH (.slice i [] 0 0 32 32)) _
 rw [wK fu rfl dz rfl fZ rfl hsl,aa]
 exact ek.use (h.ch hch (by simp)) (by omega) fun F' G' hw hc=>hQ F' G' hw (hch.grow.trans hc)
theorem en.use (h:Wr id st G F) (hQ:Q (.tuple [.str (if st.2 = 0 then st.1 else []),.int .i64 st.2]) G):al P en.n [.ptr id [] 0] G Q:=by
 refine en.sound ?_
 unfold en.S
 have hf:=WrP.fault h
 show wv (lq T G bq (.ptr id [1] 1)) _
 rw [hf]
 simp -zeta only [aa,dy,fg]
 refine ⟨fun h0=>?_,fun h0=>?_⟩
 ·show wv (lq T G bq (.ptr id [1] 1)) _
  rw [hf,aa]
  simpa [h0] using hQ
 ·obtain ⟨s,hl,_,ho,_⟩:=WrP.load h
  show wv (lq T G aP (.ptr id [0] 0)) _
  rw [hl,aa,wK fu rfl dz rfl fZ rfl ho.is,aa]
  simpa [h0] using hQ
end
end Go.Esc.M
namespace Go.Esc.M
open Go Go.Esc
section
variable {id:AId} {st:List UInt8 × Int} {G:ah} {F:List AId} {Q:ag -> ah -> Prop}
end
end Go.Esc.M
namespace Go.Esc.M
open Go Go.Esc
def Rd (id:AId) (st:List UInt8 × Int) (G:ah):Prop:=G id = some (.own (.agg [.str st.1,.int .i64 st.2]))
section
variable {id:AId} {st:List UInt8 × Int} {G:ah} {Q:ag -> ah -> Prop}
theorem Rd.fault (h:Rd id st G):lq T G bq (.ptr id [1] 1) = some (.int .i64 st.2):=dQ h rfl rfl rfl sk rfl
theorem Rd.rest (h:Rd id st G):lq T G bH (.ptr id [0] 0) = some (.str st.1):=dQ h rfl rfl rfl fZ rfl
def takes (st:List UInt8 × Int) (n:Int):List UInt8 × (List UInt8 × Int) :=
 if st.2 = 0 then (if (st.1.length:Int) < n then ([],([],2)) else (st.1.take n.toNat,(st.1.drop n.toNat,0))) else ([],st)
theorem DV {l:List UInt8} {j:Nat} (h:j < l.length):oE T bH (.str l) (.int .i64 j) = some (.int .u8 l[j].toNat):=by
 simp [oE,fZ,iO,h]
end
end Go.Esc.M
namespace Go.Esc.M
open Go Go.Esc
section
variable {id:AId} {st:List UInt8 × Int} {G:ah} {Q:ag -> ah -> Prop}
end
theorem Rd.ch {id:AId} {st:List UInt8 × Int} {G G':ah} {E E':List AId} (h:Rd id st G) (hc:Ch E G E' G') (hd:id ∉ E):Rd id st G':=hc.others _ _ h hd
theorem Rd.row {id:AId} {st:List UInt8 × Int} {G:ah} (h:Rd id st G):(G id).isSome = true:=by rw [h]; rfl
end Go.Esc.M
namespace Go.Esc.M
open Go Go.Esc
end Go.Esc.M
namespace Go.Esc.M
open Go Go.Esc
end Go.Esc.M
namespace Go.Esc.M
open Go Go.Esc
def RdL (id:AId) (st:List UInt8 × Int):LP where
 p:=fun G F=>Rd id st G /\ F = [id]
 rows:=by rintro G F ⟨h,rfl⟩ j hj; simp at hj; subst hj; exact h.row
 loc:=by rintro G G' F ⟨h,rfl⟩ hs; exact ⟨by unfold Rd at h ⊢; rw [hs id (by simp)]; exact h,rfl⟩
def RdR (id:AId) (st:List UInt8 × Int) (G:ah):Prop:=∃ l,G id = some (.own (.agg [.str l,.int .i64 st.2])) /\ (st.2 = 0 -> l = st.1) /\ (st.2 ≠ 0 -> st.1 = [])
section
variable {id:AId} {st:List UInt8 × Int} {G:ah} {Q:ag -> ah -> Prop}
theorem RdR.fault (h:RdR id st G):lq T G bq (.ptr id [1] 1) = some (.int .i64 st.2):=h.elim fun _ h=>dQ h.1 rfl rfl rfl sk rfl
theorem RdR.rest (h:RdR id st G) (h0:st.2 = 0):lq T G bH (.ptr id [0] 0) = some (.str st.1):=h.elim fun l h=>by rw [<- h.2.1 h0]; exact dQ h.1 rfl rfl rfl fZ rfl
theorem RdR.ch {G':ah} {E E':List AId} (h:RdR id st G) (hc:Ch E G E' G') (hd:id ∉ E):RdR id st G':=h.elim fun l h=>⟨l,hc.others _ _ h.1 hd,h.2⟩
theorem RdR.row (h:RdR id st G):(G id).isSome = true:=h.elim fun l h=>by rw [h.1]; rfl
theorem CC {b:List UInt8} {n:Int} (h:(b.length:Int) < n):takes (b,0) n = ([],([],2)):=by simp [takes,h]
theorem HF {b:List UInt8} {n:Int} (h:¬ (b.length:Int) < n):takes (b,0) n = (b.take n.toNat,(b.drop n.toNat,0)):=by simp [takes,h]
end
section
variable {id:AId} {st:List UInt8 × Int} {G:ah} {Q:ag -> ah -> Prop}
end
end Go.Esc.M
namespace Go.Esc.M
open Go Go.Esc
structure wD where
 kind:Int
 u:Nat
 i:Int
 h:List UInt8
 s:List UInt8
 times:Int
def wD.av (x:wD):ag:=.agg [.int .i64 x.kind,.int .u64 x.u,.int .i64 x.i,.agg (x.h.map u8v),.str x.s,.int .i64 x.times]
structure wD.ok (x:wD) (m:Nat):Prop where
 kind:I64 x.kind
 u:x.u < 2 ^ 64
 i:I64 x.i
 h:x.h.length = 32
 times:I64 x.times
 m:x.s.length + 1 ≤ m
def wD.k (x:wD):Int:=x.kind % 8
section
variable {G:ah} {Q:ag -> ah -> Prop}
def grown (s:List UInt8):Nat -> List UInt8 -> List UInt8
 | 0,c=>c
 | n + 1,c=>if c.length < 70000 /\ c ≠ [] then grown s n (c ++ s) else c
def wD.text (x:wD):List UInt8:=grown x.s (x.times - 1).toNat x.s
section
variable {id:AId} {st:List UInt8 × Int} {F:List AId} {x:wD} {m:Nat}
theorem wD.fld {G:ah} {i:AId} (hx:x.ok m) (hg:G i = some (.own x.av)) :
  lq T G jd (.ptr i [1] 1) = some (.int .u64 x.u) /\ lq T G me (.ptr i [2] 2) = some (.int .i64 x.i) /\ lq T G aj (.ptr i [3] 3) = some (.agg (x.h.map u8v)):=by
 have h1:szs (x.h.map u8v) = 32:=by rw [gv (n:=1) (ji x.h)]; simp [hx.h]
 refine ⟨dQ (c:=.int .u64 x.u) hg rfl rfl rfl mW rfl,dQ (c:=.int .i64 x.i) hg rfl rfl rfl cA rfl,dQ (c:=.agg (x.h.map u8v)) hg rfl rfl rfl cd ?_⟩
 simp [fa,sz,h1,fE,ag.isAgg,j4.isAgg]
end
structure OpM where
 two:Bool
 v:wD
 kind:Int
 n:Int
def OpM.av (o:OpM):ag:=.agg [.bool o.two,o.v.av,.int .i64 o.kind,.int .i64 o.n]
structure OpM.ok (o:OpM) (m:Nat):Prop where
 v:o.v.ok m
 m:1 ≤ m
theorem wD.ok.le {x:wD} {m m':Nat} (h:x.ok m) (hm:m ≤ m'):x.ok m':=⟨h.kind,h.u,h.i,h.h,h.times,Nat.le_trans h.m hm⟩
end
end Go.Esc.M
