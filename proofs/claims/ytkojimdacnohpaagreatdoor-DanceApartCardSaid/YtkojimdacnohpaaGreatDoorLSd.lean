import Derived.Test.YtkojimdacnohpaaGreatDoorLHb
set_option maxHeartbeats 4000000
set_option linter.unusedSimpArgs false
set_option linter.unusedVariables false
set_option maxRecDepth 20000
namespace Go.Esc
open Go Go.RowKit
theorem hJ.ch {n:Nat}{G G':ak}{E:List AId}{v:ah}{vs:List ah}(h:hJ n G v vs) (hc:Ch [] G E G'):hJ n G' v vs:=by
 rcases h with ⟨id,p,st,off,len,cap,rfl,hl,h⟩|h
 ·exact .inl ⟨_,_,_,_,_,_,rfl,hl,pO (fun j o hj=>hc.others j o hj (by simp)) h⟩
 ·exact .inr h
section
variable {T:Tbl}{ts e:TypeId}{si ie:TI} (ht:T ts=some si) (hd:si.desc=.slice e) (he:T e=some ie) (hz:sz ie.zero=ie.size)
include ht hd he hz in
theorem LQ {G:ak}{c:ah}{K:ah->ak->Prop}(hc:sz c=ie.size) (hie:ie.size≤16777216) (hK:∀ s' G',Own ie.size G' s' [c]->Ch [] G (rowOf s').toList G'->K s' G'):bu T ts 1 [(0,c)] G K:=by
 unfold bu;have hf:nx (fun k=>some (k*ie.size,ie.size)) (List.replicate 1 ie.zero) [(0,c)]=some [c]:=by simp[nx,hz,hc,szs]
 simp only[ht,hd,he,hf];refine⟨by omega,fun id hfr=>hK _ _ (.inr ⟨id,1,1,[c],rfl,ak.dR _ _ _,rfl,Nat.le_refl _,by simp[Esc.uni,hc],rfl⟩) ?_⟩;simpa[rowOf] using Ch.new hfr
include ht hd he hz in
theorem JP {G:ak}{a b:ah}{K:ah->ak->Prop}(ha:sz a=ie.size) (hb:sz b=ie.size) (hie:2*ie.size≤16777216) (hK:∀ s' G',Own ie.size G' s' [a,b]->Ch [] G (rowOf s').toList G'->K s' G'):bu T ts 2 [(0,a),(1,b)] G K:=by
 unfold bu;have hf:nx (fun k=>some (k*ie.size,ie.size)) (List.replicate 2 ie.zero) [(0,a),(1,b)]=some [a,b]:=by simp[nx,hz,ha,hb,szs,List.replicate]
 simp only[ht,hd,he,hf];refine⟨by omega,fun id hfr=>hK _ _ (.inr ⟨id,2,2,[a,b],rfl,ak.dR _ _ _,rfl,Nat.le_refl _,by simp[Esc.uni,ha,hb],rfl⟩) ?_⟩;simpa[rowOf] using Ch.new hfr
end
theorem zG (a b:Nat):(a:Int).tdiv (b:Int)=((a/b:Nat):Int):=by
 rw[Int.tdiv_eq_ediv_of_nonneg (Int.natCast_nonneg _)];rfl
theorem BC (a b:Nat):(a:Int).tmod (b:Int)=((a % b:Nat):Int):=by
 rw[Int.tmod_eq_emod_of_nonneg (Int.natCast_nonneg _)];rfl
theorem length_bytesBE (v:Nat):∀ k,(bytesBE k v).length=k
 | 0=>rfl
 | k+1=>by simp[bytesBE,length_bytesBE v k]
theorem HD {v m:Nat}{s:Int}{kk:IntKind}(hs:s=((8*m:Nat):Int)) (hm:m≤7) {T:Tbl}{t:TypeId}:az T .shr t (.int .u64 (v:Int)) (.int kk s)=some (.int .u64 ((v/2 ^ (8*m):Nat):Int)):=by
 subst hs;rw[nB _ _ _ _ _ _ (by omega)];have h1:min ((8*m:Nat):Int).toNat IntKind.u64.bits=8*m:=by
  have:IntKind.u64.bits=64:=rfl;omega
 have h2:((2:Int) ^ (8*m))=((2 ^ (8*m):Nat):Int):=by simp
 rw[h1,h2,Int.fdiv_eq_ediv_of_nonneg _ (Int.natCast_nonneg _)];congr 2
theorem vq (s:List UInt8):(pad s).length % 64=0/\(pad s).length≤s.length+72:=by
 unfold pad;simp only[List.length_append,List.length_cons,List.length_replicate,length_bytesBE];constructor<;>omega
theorem se:∀ (n:Nat) {h:List Nat}(m:List UInt8),h.length=8->(chain n h m).length=8
 | 0,h,m,hh=>hh
 | n+1,h,m,hh=>se n _ (pC hh)
theorem pj (h:List Nat):(qk h).length=32:=by simp[qk]
theorem gU (s:List UInt8):(sha s).length=32:=pj _
def mi (key:List UInt8) (c:UInt8):List UInt8:=(key++List.replicate 32 0).map fun b=>b ^^^ c
def mac (key text:List UInt8):List UInt8:=sha (mi key 0x5c++sha (mi key 0x36++text))
theorem u8_xor {T:Tbl}{t:TypeId}(a b:UInt8):az T .xor t (u8v a) (u8v b)=some (u8v (a ^^^ b)):=by
 have hb:IntKind.u8.bits=8:=rfl;have h1:a.toNat<2 ^ 8:=a.toNat_lt;have h2:b.toNat<2 ^ 8:=b.toNat_lt;unfold u8v;rw[DF,zn,BitVec.toNat_xor,uP,uP,hb,Nat.mod_eq_of_lt h1,Nat.mod_eq_of_lt h2,UInt8.toNat_xor];have:a.toNat ^^^ b.toNat<2 ^ 8:=Nat.xor_lt_two_pow h1 h2;congr 2;omega
end Go.Esc
namespace Go.Esc.M
open Go Go.Esc
section
variable {G:ak}{Q:ah->ak->Prop}
def part (D:List UInt8) (n j:Nat):List UInt8:=D.take j++List.replicate (n-j) 0
theorem Em {D:List UInt8}{n j:Nat}(hD:D.length=n) (hj:j≤n):(part D n j).length=n:=by simp[part];omega
theorem I8 {D:List UInt8}{n j:Nat}(hD:D.length=n) (hj:j<n):(part D n j).set j (D[j]'(by omega))=part D n (j+1):=by
 unfold part;have hl:(D.take j).length=j:=by simp;omega
 rw[List.set_append_right _ _ (by omega),hl,Nat.sub_self,show n-j=(n-(j+1))+1 by omega,List.replicate_succ,List.set_cons_zero,List.take_succ_eq_append_getElem (by omega),List.append_assoc];rfl
theorem HH {D:List UInt8}{n:Nat}(hD:D.length=n):part D n n=D:=by simp[part,<- hD]
theorem yx {F0:List AId}{G0:ak}{h:List Nat}{x0:ah}{is ir:AId}{G':ak}{ps:List LP}{p q:Nat}(hh:h.length=8) (hp:p<ps.length) (hpq:p≠q) (hq:ps[q]?=some (au is (.agg (eE h)))) (R:List ah->ak->Prop) (E:ah->ah->ak->Prop)
  (hR:∀ (x69 x70 x71 x72:ah) (G68:ak),(wv (az T .lss ay x72 (.int .i64 32)) fun v73=>brB (some v73)
   (wv (az T .quo ay x72 (.int .i64 4)) fun v74=>wv (aO T bn x70 v74) fun v75=>wv (ag T G68 aJ v75) fun v76=>wv (az T .rem ay x72 (.int .i64 4)) fun v77=>wv (az T .mul ay (.int .i64 8) v77) fun v78=>wv (az T .sub ay (.int .i64 24) v78) fun v79=>wv (az T .shr aJ v76 v79) fun v80=>wv (gv T G68 aJ cm v80) fun v81=>wv (aO T ar x71 x72) fun v82=>wg (aF T G68 cm v82 v81) fun G83=>wv (az T .add ay x72 (.int .i64 1)) fun v84=>R [x69,x70,x71,v84] G83)
   (E x69 x71 G68))->R [x69,x70,x71,x72] G68)
  (hsp:Sp F0 G0 (ps.set p (au ir (.agg ((List.replicate 32 (0:UInt8)).map u8v)))) G') (hfin:∀ G',Sp F0 G0 (ps.set p (au ir (.agg ((qk h).map u8v)))) G'->E x0 (.ptr ir [] 0) G') :
  R [x0,.ptr is [] 0,.ptr ir [] 0,.int .i64 0] G':=by
 have hD:=pj h;have loop:∀ (n j:Nat) (G':ak),32-j=n->j≤32->Sp F0 G0 (ps.set p (au ir (.agg ((part (qk h) 32 j).map u8v)))) G'->R [x0,.ptr is [] 0,.ptr ir [] 0,.int .i64 (j:Int)] G':=by
  intro n;induction n with
  | zero=>
   intro j G' hn hj hs;have:j=32:=(by omega);subst this;refine hR _ _ _ _ _ ?_;rw[aM,aa,aI];refine⟨fun h=>absurd h (by decide),fun _=>hfin _ ?_⟩;rw[HH hD]at hs;exact hs
  | succ n ih=>
   intro j G' hn hj hs;have hj32:j<32:=(by omega);have g1:=au.own (i:=p) hs (List.getElem?_set_self hp);have g2:=au.own (i:=q) hs (by rw[List.getElem?_set_ne hpq];exact hq);obtain⟨x,hx⟩:∃ x,h[j/4]?=some x:=⟨_,List.getElem?_eq_getElem (by omega)⟩;refine hR _ _ _ _ _ ?_;rw[aM,aa,aI];refine⟨fun _=>?_,fun h=>absurd (by omega) h⟩;have hq4:(j:Int).tdiv 4=((j/4:Nat):Int):=zG j 4;have hr4:(j:Int).tmod 4=((j % 4:Nat):Int):=BC j 4;rw[zw _ _ _ _ _ (by decide),aa,hq4,i64_in (by omega) (by omega),ko rfl (by omega),aa,gR g2 hx,aa,q9 _ _ _ _ _ (by decide),aa,hr4,kP,aa,i64_in (by omega) (by omega),b7,aa,i64_in (by omega) (by omega)];rw[rQ (k:=24-8*(j % 4)) (by omega) (by omega),aa,jk kU cW rfl,aa,nQ hj32,aa];have hb:(qk h)[j]'(by rw[hD];exact hj32)=UInt8.ofNat (zM (24-8*(j % 4)) x):=by
    simp only[qk,List.getElem_map,List.getElem_range,List.getD_eq_getElem?_getD,hx];rfl
   have hu:(ah.int .u8 (IntKind.u8.wrap ((zM (24-8*(j % 4)) x:Nat):Int)))=u8v ((qk h)[j]'(by rw[hD];exact hj32)):=by
    rw[hb,nr,zn];rfl
   rw[hu,u6 (by rw[Em hD hj];exact hj32) g1,jl,I8 hD hj32,bg,aa,i64_in (by omega) (by omega)];refine ih (j+1) _ (by omega) (by omega) ?_;have:=Sp.setRow hs (j:=p) (List.getElem?_set_self hp) (.agg ((part (qk h) 32 (j+1)).map u8v))
   rwa [List.set_set]at this
 exact loop 32 0 G' rfl (by omega) (by simpa[part] using hsp)
theorem tZ {v:ah}{l:List UInt8}(h:Own 1 G v (l.map u8v)):fU T G aR v=some (.int .i64 (l.length:Nat)):=by
 rw[h.is.len (i:=fJ) eC rfl,List.length_map]
theorem Aw {F0:List AId}{G0:ak}{ps:List LP}{s:ah}{l:List UInt8}{b:UInt8}{i:Nat}{K:ah->ak->Prop}(hs:Sp F0 G0 ps G) (hi:ps[i]?=some (bm 1 s (l.map u8v))) (hl:l.length+1≤140737488355328)
  (hK:∀ s' G',Sp F0 G0 (ps.set i (bm 1 s' ((l++[b]).map u8v))) G'->K s' G'):bu T aR 1 [(0,u8v b)] G fun v G'=>cn T G' aR aR s v K:=by
 obtain⟨F,ho,_⟩:=hs.get hi;refine Di (T:=T) (ts:=aR) (e:=cm) (si:=fJ) (ie:=gi) eC rfl cW rfl (by decide) ho rfl rfl (by decide) ?_ fun s' G2 ho2 hk=>hK s' G2 ?_
 ·simp only[List.length_map,gi];omega
 ·refine hs.call hi (bm 1 s' ((l++[b]).map u8v)) fun F h k=>?_;obtain⟨_,rfl⟩:=h;exact k _ _ ⟨by rw[List.map_append];exact ho2,rfl⟩ hk.ch
theorem jh.use {v:ah}{xs:List (List UInt8)}(h:hJ 1 G v (xs.map .str)) (hN:xs.length≤140737488355328) (hl:xs.flatten.length≤281474976710656) (hQ:∀ G',Ch [] G [] G'->Q (.agg ((sha xs.flatten).map u8v)) G') :
  al P jh.n [v] G Q:=by
 refine jh.sound ?_;unfold jh.S;rw[mF];intro i1 f1;have s1:=(Sp.nil G).row f1 (.agg ((List.replicate 32 (0:UInt8)).map u8v));refine strings_Join.use (h.ch f1.ch) hN hl ?_;unfold sha at hQ;revert hQ hl;generalize xs.flatten=s;intro hl hQ;obtain⟨D,hD⟩:∃ D,chain ((pad s).length/64) Ba (pad s)=D:=⟨_,rfl⟩;rw[hD]at hQ;have hD8:D.length=8:=by rw[<- hD];exact se _ _ rfl
 have hlen:∀ G (l:List UInt8),fU T G bH (.str l)=some (.int .i64 (l.length:Nat)):=fun _ _=>rfl;rw[hlen,aa];refine LQ (T:=T) (ts:=aR) (e:=cm) (si:=fJ) (ie:=gi) eC rfl cW rfl rfl (by decide) fun pd G7 h7 c7=>?_;have s7:=s1.new (p:=bm 1 pd ([(128:UInt8)].map u8v)) ⟨h7,rfl⟩ c7;intro R8 hR8;obtain⟨zt,hzt⟩:∃ zt,zt=(119-s.length % 64) % 64:=⟨_,rfl⟩;have loop1:∀ (n z:Nat) (pd:ah) (G':ak),zt-z=n->z≤zt->Sp [] G [bm 1 pd (((128:UInt8)::List.replicate z 0).map u8v),au i1 (.agg ((List.replicate 32 (0:UInt8)).map u8v))] G' ->
   R8 [.ptr i1 [] 0,.str s,.int .i64 (s.length:Nat),pd] G':=by
  intro n;induction n with
  | zero=>
   intro z pd G' hn hz hs;have:z=zt:=(by omega);subst this;obtain⟨F,ho,_⟩:=hs.get (i:=0) rfl;refine hR8 _ _ _ _ _ ?_;rw[tZ ho,aa,bg,aa,List.length_cons,List.length_replicate,i64_in (by omega) (by omega),q9 _ _ _ _ _ (by decide),aa];have hm:((s.length:Int)+((z+1:Nat):Int)).tmod 64=56:=by
    rw[Int.tmod_eq_emod_of_nonneg (by omega)];omega
   rw[hm,cD,aa,dC];refine⟨fun h=>absurd rfl h,fun _=>?_⟩;intro R22 hR22;have loop2:∀ (m:Nat) (k:Nat) (bs:List UInt8) (pd:ah) (G':ak),8-k=m->k≤8->bs++bytesBE m (8*s.length)=(128:UInt8)::(List.replicate z 0++bytesBE 8 (8*s.length))->bs.length≤200 ->
     Sp [] G [bm 1 pd (bs.map u8v),au i1 (.agg ((List.replicate 32 (0:UInt8)).map u8v))] G'->R22 [.ptr i1 [] 0,.str s,.int .i64 (s.length:Nat),pd,.int .i64 (k:Int)] G':=by
    intro m;induction m with
    | zero=>
     intro k bs pd G' hm hk he hbl hs;have:k=8:=(by omega);subst this;rw[bytesBE,List.append_nil]at he;subst he;obtain⟨F,ho,_⟩:=hs.get (i:=0) rfl;refine hR22 _ _ _ _ _ _ ?_;rw[aM,aa,aI];refine⟨fun h=>absurd h (by decide),fun _=>?_⟩;rw[km eC rfl cW rfl fS rfl ho.is,aa,tM _ _ (by omega),aa];have hpad:s++(128:UInt8)::(List.replicate z 0++bytesBE 8 (8*s.length))=pad s:=(by rw[pad,<- hzt]);rw[hpad];refine ae (v:=.agg (eE Ba)) (by kernel_rfl) ?_;have sA:=hs.erase 0;rw[z8];intro i44 f44;have s45:=sA.row f44 (.agg (eE (List.replicate 8 0)));rw[nv (by simp) (ws':=Ba) rfl (au.own (i:=0) s45 rfl),jl];have s46:=Sp.setRow s45 (j:=0) rfl (.agg (eE Ba));refine gV.use fun G48 c48=>?_;have s48:=s46.tmp c48;rw[z64];intro i49 f49;have s50:=s48.row f49 (.agg (eE (List.replicate 64 0)));rw[sH (by simp) (ws':=oj) rfl (au.own (i:=0) s50 rfl),jl];have s51:=Sp.setRow s50 (j:=0) rfl (.agg (eE oj));intro R52 hR52;have loop3:∀ (n:Nat) (m:List UInt8) (h:List Nat) (G':ak),m.length=64*n->h.length=8->chain n h m=D ->
       Sp [] G [au i49 (.agg (eE oj)),au i44 (.agg (eE h)),au i1 (.agg ((List.replicate 32 (0:UInt8)).map u8v))] G'->R52 [.ptr i1 [] 0,.str m,.ptr i44 [] 0,.ptr i49 [] 0] G':=by
      intro n;induction n with
      | zero=>
       intro m h G' hm hh he hs;have:m=[]:=List.length_eq_zero_iff.1 hm;subst this;have he:h=D:=he;subst he;refine hR52 _ _ _ _ _ ?_;rw[wS,aa,dC];refine⟨fun h=>absurd rfl h,fun _=>?_⟩;intro i65 f65;have s66:=hs.row f65 (.agg ((List.replicate 32 (0:UInt8)).map u8v));intro R67 hR67;refine yx (p:=0) (q:=2) (x0:=.ptr i1 [] 0) hh (by simp) (by decide) (ps:=[au i65 (.agg ((List.replicate 32 (0:UInt8)).map u8v)),au i49 (.agg (eE oj)),au i44 (.agg (eE h)),au i1 (.agg ((List.replicate 32 (0:UInt8)).map u8v))]) rfl R67 _ hR67 s66 fun G9 h9=>?_;have hz:=pj h;rw[bM hz (au.own (i:=0) h9 rfl),aa,gA (by simp) hz (au.own (i:=3) h9 rfl),jl,bM hz (ak.dR _ _ _),aa];exact hQ _ (Sp.setRow h9 (j:=3) rfl (.agg ((qk h).map u8v))).ch
      | succ n ih=>
       intro m h G' hm hh he hs;refine hR52 _ _ _ _ _ ?_;rw[wS,aa,dC];refine⟨fun _=>?_,fun h=>absurd (congrArg List.length h) (by rw[hm];simp)⟩;rw[n4 hh (au.own (i:=1) hs rfl),aa,Kk (by omega) (by omega),aa];refine jv.use hh (by simp;omega) (au.own (i:=0) hs rfl) fun G9 c9=>?_;have s9:=hs.tmp c9;have hc8:(compress h (m.take 64)).length=8:=pC hh;show wg (aF T G9 bn (.ptr i44 [] 0) (.agg (eE (compress h (m.take 64))))) _;rw[nv hh hc8 (au.own (i:=1) s9 rfl),jl,IK (by omega) (by omega),aa];exact ih (m.drop 64) _ _ (by simp;omega) hc8 he (Sp.setRow s9 (j:=1) rfl _)
     have hp:=vq s;exact loop3 ((pad s).length/64) (pad s) Ba _ (by omega) rfl hD s51
    | succ m ih=>
     intro k bs pd G' hm hk he hbl hs;refine hR22 _ _ _ _ _ _ ?_;rw[aM,aa,aI];refine⟨fun _=>?_,fun h=>absurd (by omega) h⟩;rw[kP,aa,i64_in (by omega) (by omega),jk iD n5 rfl,aa,u64_in (by omega) (by omega),kP,aa,i64_in (by omega) (by omega),b7,aa,i64_in (by omega) (by omega)];have e8:(8:Int)*(s.length:Nat)=((8*s.length:Nat):Int):=(by omega);rw[e8,HD (m:=m) (by omega) (by omega),aa,jk n5 cW rfl,aa,zn];have eb:(ah.int .u8 (((8*s.length/2 ^ (8*m):Nat):Int) % 256))=u8v (UInt8.ofNat (8*s.length/2 ^ (8*m))):=(by rw[nr];rfl);rw[eb];have hbl':bs.length+(m+1)≤72+1:=by
      have:=congrArg List.length he;simp only[List.length_append,length_bytesBE,List.length_cons,List.length_replicate]at this;omega
     refine Aw (i:=0) hs rfl (by omega) fun s' G9 s9=>?_;rw[bg,aa,i64_in (by omega) (by omega)];refine ih (k+1) _ s' G9 (by omega) (by omega) ?_ (by simp;omega) s9;rw[bytesBE]at he;rw[List.append_assoc,List.singleton_append];exact he
   exact loop2 8 0 ((128:UInt8)::List.replicate z 0) pd G' rfl (by omega) rfl (by simp;omega) hs
  | succ n ih=>
   intro z pd G' hn hz hs;obtain⟨F,ho,_⟩:=hs.get (i:=0) rfl;refine hR8 _ _ _ _ _ ?_;rw[tZ ho,aa,bg,aa,List.length_cons,List.length_replicate,i64_in (by omega) (by omega),q9 _ _ _ _ _ (by decide),aa];have hm:((s.length:Int)+((z+1:Nat):Int)).tmod 64≠56:=by
    rw[Int.tmod_eq_emod_of_nonneg (by omega)];omega
   rw[cD,aa,dC];refine⟨fun _=>?_,fun h=>absurd h hm⟩;refine Aw (i:=0) (b:=0) hs rfl (by simp;omega) fun s' G9 s9=>?_;refine ih (z+1) s' G9 (by omega) (by omega) ?_;have:(128:UInt8)::List.replicate (z+1) 0=(128:UInt8)::List.replicate z 0++[0]:=(by rw[List.replicate_succ'];rfl);rw[this];exact s9
 exact loop1 zt 0 pd G7 rfl (by omega) s7
end
end Go.Esc.M
namespace Go.Esc
open Go Go.RowKit
def mix {α:Type} (D X:List α) (j:Nat):List α:=D.take j++X.drop j
theorem Eh {α:Type}(D X:List α):mix D X 0=X:=by simp[mix]
theorem Ei {α:Type}{D X:List α}(h:D.length=X.length):mix D X X.length=D:=by simp[mix,<- h]
theorem GN {α:Type}{D X:List α}{j:Nat}(h:D.length=X.length) (hj:j<X.length):(mix D X j)[j]?=some X[j]:=by
 unfold mix;have hl:(D.take j).length=j:=by simp;omega
 rw[List.getElem?_append_right (by omega),hl,Nat.sub_self,List.getElem?_drop,Nat.add_zero,List.getElem?_eq_getElem hj]
theorem GM {α:Type}{D X:List α}{j:Nat}(h:D.length=X.length) (hj:j<X.length):(mix D X j).set j (D[j]'(by omega))=mix D X (j+1):=by
 unfold mix;have hl:(D.take j).length=j:=by simp;omega
 rw[List.set_append_right _ _ (by omega),hl,Nat.sub_self,List.drop_eq_getElem_cons hj,List.set_cons_zero,List.take_succ_eq_append_getElem (by omega),List.append_assoc];rfl
theorem Md {b0 b1 b2 b3:Nat}(h0:b0<256) (h1:b1<256) (h2:b2<256) (h3:b3<256):xx (xx (xx (pr 24 b0) (pr 16 b1)) (pr 8 b2)) b3=((b0*256+b1)*256+b2)*256+b3:=by
 have e1:pr 16 b1=2 ^ 16*b1:=by unfold pr;omega
 have e2:pr 8 b2=2 ^ 8*b2:=by unfold pr;omega
 have e3:2 ^ 24*b0+2 ^ 16*b1=pr 16 (256*b0+b1):=by unfold pr;omega
 have e4:2 ^ 16*(256*b0+b1)+2 ^ 8*b2=pr 8 (256*(256*b0+b1)+b2):=by unfold pr;omega
 rw[e1,e2,CU 24 _ _ (by omega) (by omega),e3,CU 16 _ _ (by omega) (by omega),e4,CU 8 _ _ (by omega) (by omega)];omega
theorem Kp {v m:Nat}{s:Int}{kk:IntKind}(hs:s=((8*m:Nat):Int)) (hm:m≤7) {T:Tbl}{t:TypeId}:az T .shr t (.int .i64 (v:Int)) (.int kk s)=some (.int .i64 ((v/2 ^ (8*m):Nat):Int)):=by
 subst hs;rw[nB _ _ _ _ _ _ (by omega)];have h1:min ((8*m:Nat):Int).toNat IntKind.i64.bits=8*m:=by
  have:IntKind.i64.bits=64:=rfl;omega
 have h2:((2:Int) ^ (8*m))=((2 ^ (8*m):Nat):Int):=by simp
 rw[h1,h2,Int.fdiv_eq_ediv_of_nonneg _ (Int.natCast_nonneg _)];congr 2
theorem ff.ch {n:Nat}{G G':ak}{E:List AId}{v:ah}{vs:List ah}(h:ff n G v vs) (hc:Ch [] G E G'):ff n G' v vs:=h.le fun j o hj=>hc.others j o hj (by simp)
theorem nM {key:List UInt8}(h:key.length=32) (c:UInt8):(mi key c).length=64:=by simp[mi,h]
end Go.Esc
namespace Go.Esc.M
open Go Go.Esc
section
variable {G:ak}{Q:ah->ak->Prop}
theorem ya {i:AId}:dV T lF (.ptr i [] 0) none none none=some (.slice i [] 0 0 64 64):=by
 have e1:T lF=some nX:=sK;have e2:nX.desc=.array 64 cm:=rfl;simp[dV,e1,e2,cW,j8,lH]
theorem j5.use {key:List UInt8}{c:UInt8}(hk:key.length=32) (hQ:∀ G',Ch [] G [] G'->Q (.str (mi key c)) G'):al P j5.n [.agg (key.map u8v),u8v c] G Q:=by
 refine j5.sound ?_;unfold j5.S;have hz:rJ=.agg ((List.replicate 64 (0:UInt8)).map u8v):=rfl;rw[hz];intro i1 f1;have s1:=(Sp.nil G).row f1 (.agg (key.map u8v));intro i3 f3;have s3:=s1.row f3 (.agg ((List.replicate 64 (0:UInt8)).map u8v));rw[ya,aa,pk,aa];have hX:(key++List.replicate 32 0).length=64:=by simp[hk]
 refine s3.call (i:=0) rfl (au i3 (.agg ((key++List.replicate 32 (0:UInt8)).map u8v))) fun F h k=>?_;obtain⟨h,rfl⟩:=h;refine FR (qR (au.own (i:=1) s3 rfl) hk).elems h (by simp) (by omega) fun G8 g8 c8=>?_;have e8:key++(List.replicate 64 (0:UInt8)).drop key.length=key++List.replicate 32 0:=by rw[List.drop_replicate,hk]
 rw[e8]at g8;have s8:=k _ _ ⟨g8,rfl⟩ c8;intro R9 hR9;have hD:(mi key c).length=(key++List.replicate 32 (0:UInt8)).length:=by simp[mi]
 have loop:∀ (n j:Nat) (G':ak),64-j=n->j≤64->Sp [] G [au i3 (.agg ((mix (mi key c) (key++List.replicate 32 0) j).map u8v)),au i1 (.agg (key.map u8v))] G'->R9 [u8v c,.ptr i3 [] 0,.int .i64 (j:Int)] G':=by
  intro n;induction n with
  | zero=>
   intro j G' hn hj hs;have:j=(key++List.replicate 32 (0:UInt8)).length:=(by omega);subst this;have g3:=au.own (i:=0) hs rfl;rw[Ei hD]at g3;refine hR9 _ _ _ _ ?_;rw[aM,aa,aI];refine⟨fun h=>absurd h (by omega),fun _=>?_⟩;rw[ya,aa,km eC rfl cW rfl fS rfl (qR g3 (nM hk c)),aa];exact hQ _ hs.ch
  | succ n ih=>
   intro j G' hn hj hs;have hj64:j<64:=(by omega);have g3:=au.own (i:=0) hs rfl;have hg:((mix (mi key c) (key++List.replicate 32 0) j).map u8v)[j]?=some (u8v ((key++List.replicate 32 (0:UInt8))[j]'(by omega))):=by
    rw[List.getElem?_map,GN hD (by omega)];rfl
   have ad:aO T lF (.ptr i3 [] 0) (.int .i64 (j:Int))=some (.ptr i3 [j] j):=qt sK rfl cW rfl rfl hj64;refine hR9 _ _ _ _ ?_;rw[aM,aa,aI];refine⟨fun _=>?_,fun h=>absurd (by omega) h⟩;rw[ad,aa,wG cW g3 (kd _) hg rfl,aa,u8_xor,aa,aa];refine fg (uq cW g3 (kd _) hg rfl rfl rfl) ?_;rw[bg,aa,i64_in (by omega) (by omega)];have hset:((mix (mi key c) (key++List.replicate 32 0) j).map u8v).set j (u8v ((key++List.replicate 32 (0:UInt8))[j]'(by omega) ^^^ c))=(mix (mi key c) (key++List.replicate 32 0) (j+1)).map u8v:=by
    have e:(key++List.replicate 32 (0:UInt8))[j]'(by omega) ^^^ c=(mi key c)[j]'(by omega):=(by simp only[mi,List.getElem_map]);rw[e,<- List.map_set,GM hD (by omega)]
   rw[hset];exact ih (j+1) _ (by omega) (by omega) (Sp.setRow hs (j:=0) rfl _)
 exact loop 64 0 G8 rfl (by omega) (by rw[Eh];exact s8)
theorem Ea {a b:List UInt8}{v:ah}(h:Own 1 G v [.str a,.str b]):hJ 1 G v ([a,b].map .str):=h.cap
theorem l9.use {key text:List UInt8}(hk:key.length=32) (hl:text.length≤281474976710592) (hQ:∀ G',Ch [] G [] G'->Q (.agg ((mac key text).map u8v)) G'):al P l9.n [.agg (key.map u8v),.str text] G Q:=by
 refine l9.sound ?_;unfold l9.S;rw[mF];intro i1 f1;have s1:=(Sp.nil G).row f1 (.agg (key.map u8v));intro i3 f3;have s3:=s1.row f3 (.agg ((List.replicate 32 (0:UInt8)).map u8v));rw[bM hk (au.own (i:=1) s3 rfl),aa];refine j5.use (c:=0x36) hk fun G7 c7=>?_;have s7:=s3.tmp c7;have hlo:=nM hk 0x36;have hlo':=nM hk 0x5c;refine JP (T:=T) (ts:=iE) (e:=bH) (si:=kf) (ie:=iO) m9 rfl fS rfl rfl rfl (by decide) fun v8 G9 o9 c9=>?_;have s9:=s7.tmp c9;refine jh.use (Ea o9) (by simp) (by simp;omega) fun G11 c11=>?_;have s11:=s9.tmp c11;have e1:[mi key 0x36,text].flatten=mi key 0x36++text:=by simp
 rw[e1];have hs1:=gU (mi key 0x36++text);intro i12 f12;have s13:=s11.row f12 (.agg ((List.replicate 32 (0:UInt8)).map u8v));rw[gA (by simp) hs1 (au.own (i:=0) s13 rfl),jl];have s14:=Sp.setRow s13 (j:=0) rfl (.agg ((sha (mi key 0x36++text)).map u8v));rw[bM hk (au.own (i:=2) s14 rfl),aa,pk,aa,km eC rfl cW rfl fS rfl (qR (au.own (i:=0) s14 rfl) hs1),aa];refine j5.use (c:=0x5c) hk fun G19 c19=>?_;have s19:=s14.tmp c19;have fin:∀ G20,Sp [] G [au i12 (.agg ((sha (mi key 0x36++text)).map u8v)),au i3 (.agg ((List.replicate 32 (0:UInt8)).map u8v)),au i1 (.agg (key.map u8v))] G20 ->
   bu T iE 2 [(0,.str (mi key 0x5c)),(1,.str (sha (mi key 0x36++text)))] G20 fun v20 G21=>al P jh.n [v20] G21 fun v22 G23=>wg (aF T G23 ar (.ptr i3 [] 0) v22) fun G24=>wv (ag T G24 ar (.ptr i3 [] 0)) fun v25=>Q v25 G24:=by
  intro G20 s20;refine JP (T:=T) (ts:=iE) (e:=bH) (si:=kf) (ie:=iO) m9 rfl fS rfl rfl rfl (by decide) fun v8 G21 o21 c21=>?_;have s21:=s20.tmp c21;refine jh.use (Ea o21) (by simp) (by simp;omega) fun G23 c23=>?_;have s23:=s21.tmp c23;have e1:[mi key 0x5c,sha (mi key 0x36++text)].flatten=mi key 0x5c++sha (mi key 0x36++text):=by simp
  rw[e1];have hm:(mac key text).length=32:=gU _;show wg (aF T G23 ar (.ptr i3 [] 0) (.agg ((mac key text).map u8v))) _;rw[gA (by simp) hm (au.own (i:=1) s23 rfl),jl,bM hm (ak.dR _ _ _),aa];exact hQ _ (Sp.setRow s23 (j:=1) rfl (.agg ((mac key text).map u8v))).ch
 first
 | exact fin _ s19
 | exact⟨⟨km eC rfl cW rfl fS rfl (qR (au.own (i:=0) s19 rfl) hs1),bM hk (au.own (i:=2) s19 rfl),trivial⟩,fin _ s19⟩
 | exact⟨⟨km eC rfl cW rfl fS rfl (qR (au.own (i:=0) s19 rfl) hs1),trivial⟩,fin _ s19⟩
theorem bS.use {a r:Nat}{m:Int}(hm:m=(r:Int)) (h1:1≤r) (h2:r≤31) (hQ:Q (.int .u32 (yT r a:Nat)) G):al P bS.n [.int .u32 (a:Int),.int .i64 m] G Q:=by
 subst hm;refine bS.sound ?_;unfold bS.S;rw[rQ (k:=r) rfl (by omega),aa,b7,aa,i64_in (by omega) (by omega),tP (k:=32-r) (by omega) (by omega),aa,u32_or,aa];exact hQ
theorem eN.use (hQ:∀ G',Ch [] G [] G'->Q (.agg (eE oj)) G'):al P eN.n [] G Q:=by
 refine eN.sound ?_;unfold eN.S;intro i1 f1;refine ae (v:=.agg (eE oj)) (by kernel_rfl) ?_;rw[z64];have s1:=(Sp.nil G).row f1 (.agg (eE (List.replicate 64 0)));rw[sH (by simp) (ws':=oj) rfl (au.own (i:=0) s1 rfl),jl,Ij rfl (ak.dR _ _ _),aa];exact hQ _ (Sp.setRow s1 (j:=0) rfl (.agg (eE oj))).ch
end
end Go.Esc.M
namespace Go.Esc.M
open Go Go.Esc
section
variable {G:ak}{Q:ah->ak->Prop}
theorem Hg {v:ah}{p:List UInt8}{j:Nat}{m:Int}(h:ff 1 G v (p.map u8v)) (hm:m=(j:Int)) (hj:j<p.length):∃ a,aO T aR v (.int .i64 m)=some a/\ag T G cm a=some (u8v p[j]):=by
 subst hm;exact h.at_ (k:=.i64) (i:=fJ) (ie:=gi) (T:=T) (t:=aR) (e:=cm) eC rfl cW (by rw[List.getElem?_map,List.getElem?_eq_getElem hj];rfl) rfl
theorem rP (b:UInt8):gv T G cm aJ (u8v b)=some (.int .u32 (b.toNat:Nat)):=Bz b
theorem fw.use {s:List Nat}{p:List UInt8}{v:ah}{at_:Nat}(hs8:s.length=8) (hp:ff 1 G v (p.map u8v)) (hat:at_+64≤p.length) (hpl:p.length≤9223372036854775807) (hQ:∀ G',Ch [] G [] G'->Q (.agg (eE (compress s ((p.drop at_).take 64)))) G') :
  al P fw.n [.agg (eE s),v,.int .i64 (at_:Int)] G Q:=by
 refine fw.sound ?_;unfold fw.S;rw[z8,z64];unfold compress at hQ;obtain⟨b,hbd⟩:∃ b,(p.drop at_).take 64=b:=⟨_,rfl⟩;rw[hbd]at hQ;have hb64:b.length=64:=by rw[<- hbd];simp;omega
 have hbj:∀ j,(hj:j<64)->b[j]'(by omega)=p[at_+j]'(by omega):=by
  intro j hj;subst hbd;simp
 obtain⟨W,hW⟩:∃ W,sched 48 (words b 16)=W:=⟨_,rfl⟩;have hW64:W.length=64:=by rw[<- hW,sc,gY]
 rw[hW]at hQ;obtain⟨fin,hfin⟩:∃ f,yU oj W s=f:=⟨_,rfl⟩;rw[hfin]at hQ;intro i1 f1;have s1:=(Sp.nil G).row f1 (.agg (eE s));intro i3 f3;have s3:=s1.row f3 (.agg (eE (List.replicate 8 0)));refine eN.use fun G6 c6=>?_;have s6:=s3.tmp c6;intro i7 f7;have s7:=s6.row f7 (.agg (eE (List.replicate 64 0)));rw[sH (by simp) (ws':=oj) rfl (au.own (i:=0) s7 rfl),jl];have s9:=Sp.setRow s7 (j:=0) rfl (.agg (eE oj));intro i10 f10;have s11:Sp [] G [au i10 (.agg (filled 64 [])),au i7 (.agg (eE oj)),au i3 (.agg (eE (List.replicate 8 0))),au i1 (.agg (eE s))] _:=s9.row f10 (.agg (eE (List.replicate 64 0)));revert s11;generalize ak.upd _ i10 (.own (.agg (eE (List.replicate 64 0))))=G11;intro s11 R12 hR12;have loop1:∀ (n i:Nat) (G':ak),16-i=n->i≤16->Sp [] G [au i10 (.agg (filled 64 (words b i))),au i7 (.agg (eE oj)),au i3 (.agg (eE (List.replicate 8 0))),au i1 (.agg (eE s))] G' ->
   R12 [v,.int .i64 (at_:Int),.ptr i1 [] 0,.ptr i3 [] 0,.ptr i7 [] 0,.ptr i10 [] 0,.int .i64 (i:Int)] G':=by
  intro n;induction n with
  | zero=>
   intro i G' hn hi hs;have:i=16:=(by omega);subst this;refine hR12 _ _ _ _ _ _ _ _ ?_;rw[aM,aa,aI];refine⟨fun h=>absurd h (by decide),fun _=>?_⟩;intro R48 hR48;have loop2:∀ (n:Nat) (ws:List Nat) (G':ak),64-ws.length=n->16≤ws.length->ws.length≤64->sched n ws=W->Sp [] G [au i10 (.agg (filled 64 ws)),au i7 (.agg (eE oj)),au i3 (.agg (eE (List.replicate 8 0))),au i1 (.agg (eE s))] G' ->
     R48 [.ptr i1 [] 0,.ptr i3 [] 0,.ptr i7 [] 0,.ptr i10 [] 0,.int .i64 (ws.length:Int)] G':=by
    intro n;induction n with
    | zero=>
     intro ws G' hn h16 h64 he hs;have hl:ws.length=64:=(by omega);have he:ws=W:=he;subst he;rw[yv hl]at hs;refine hR48 _ _ _ _ _ _ ?_;rw[aM,aa,aI];refine⟨fun h=>absurd h (by omega),fun _=>?_⟩;rw[n4 hs8 (au.own (i:=3) hs rfl),aa];intro i89 f89;have s90:=hs.row f89 (.agg (eE (List.replicate 8 0)));rw[nv (by simp) hs8 (au.own (i:=0) s90 rfl),jl];have s91:Sp [] G [au i89 (.agg (eE s)),au i10 (.agg (eE ws)),au i7 (.agg (eE oj)),au i3 (.agg (eE (List.replicate 8 0))),au i1 (.agg (eE s))] _:=Sp.setRow s90 (j:=0) rfl (.agg (eE s));revert s91;generalize ak.upd _ i89 (.own (.agg (eE s)))=G91;intro s91 R92 hR92;have loop3:∀ (n t:Nat) (r:List Nat) (G':ak),64-t=n->t≤64->r.length=8->yU (oj.drop t) (ws.drop t) r=fin->Sp [] G [au i89 (.agg (eE r)),au i10 (.agg (eE ws)),au i7 (.agg (eE oj)),au i3 (.agg (eE (List.replicate 8 0))),au i1 (.agg (eE s))] G' ->
       R92 [.ptr i1 [] 0,.ptr i3 [] 0,.ptr i7 [] 0,.ptr i10 [] 0,.ptr i89 [] 0,.int .i64 (t:Int)] G':=by
      intro n;induction n with
      | zero=>
       intro t r G' hn ht hr8 he h;have:t=64:=(by omega);subst this;refine hR92 _ _ _ _ _ _ _ ?_;rw[aM,aa,aI];refine⟨fun h=>absurd h (by decide),fun _=>?_⟩;have he:r=fin:=by
        rw[List.drop_of_length_le (by rw[wi];omega)]at he;exact he
       subst he;intro R172 hR172;refine EO (p:=0) (q:=4) (x3:=.ptr i3 [] 0) hs8 hr8 (by simp) (by decide) (ps:=[au i89 (.agg (eE r)),au i10 (.agg (eE ws)),au i7 (.agg (eE oj)),au i3 (.agg (eE (List.replicate 8 0))),au i1 (.agg (eE s))]) rfl R172 _ hR172 h fun G9 h9=>?_;have hz:(List.zipWith nS r s).length=8:=(by rw[List.length_zipWith,hr8,hs8];rfl);rw[n4 hz (au.own (i:=0) h9 rfl),aa,nv (by simp) hz (au.own (i:=3) h9 rfl),jl,n4 hz (ak.dR _ _ _),aa];exact hQ _ (Sp.setRow h9 (j:=3) rfl (.agg (eE (List.zipWith nS r s)))).ch
      | succ n ih=>
       intro t r G' hn ht hr8 he h;obtain⟨a,b,c,d,e,f,g,k,rfl⟩:=LJ hr8;have ht64:t<64:=(by omega);obtain⟨w,hw⟩:∃ w,ws[t]?=some w:=⟨_,List.getElem?_eq_getElem (by omega)⟩;obtain⟨q,hq⟩:∃ q,oj[t]?=some q:=⟨_,List.getElem?_eq_getElem (by rw[wi];omega)⟩;have gr:=au.own (i:=0) h rfl;have gw:=au.own (i:=1) h rfl;have gc:=au.own (i:=2) h rfl;have L0:=gR (j:=0) gr rfl;have L1:=gR (j:=1) gr rfl;have L2:=gR (j:=2) gr rfl;have L3:=gR (j:=3) gr rfl;have L4:=gR (j:=4) gr rfl;have L5:=gR (j:=5) gr rfl;have L6:=gR (j:=6) gr rfl;have L7:=gR (j:=7) gr rfl;have LW:=gR gw hw;have LK:=gR gc hq;have A0:=ko (i:=i89) (m:=0) (j:=0) rfl (by omega);have A1:=ko (i:=i89) (m:=1) (j:=1) rfl (by omega);have A2:=ko (i:=i89) (m:=2) (j:=2) rfl (by omega);have A3:=ko (i:=i89) (m:=3) (j:=3) rfl (by omega);have A4:=ko (i:=i89) (m:=4) (j:=4) rfl (by omega);have A5:=ko (i:=i89) (m:=5) (j:=5) rfl (by omega);have A6:=ko (i:=i89) (m:=6) (j:=6) rfl (by omega);have A7:=ko (i:=i89) (m:=7) (j:=7) rfl (by omega);have AW:=ur (i:=i10) (m:=(t:Int)) rfl ht64;have AK:=ur (i:=i7) (m:=(t:Int)) rfl ht64;refine hR92 _ _ _ _ _ _ _ ?_;rw[aM,aa,aI];refine⟨fun _=>?_,fun h=>absurd (by omega) h⟩;simp -zeta only [A0,A1,A2,A3,A4,A5,A6,A7,AW,AK,Dz,aa,L0,L1,L2,L3,L4,L5,L6,L7,LW,LK,u32_and,u32_xor,tQ,nJ];refine bS.use (r:=6) (by omega) (by omega) (by omega) ⟨⟨LW,LK,L6,L5,L7,trivial⟩,?_⟩;refine bS.use (r:=11) (by omega) (by omega) (by omega) ⟨⟨LW,LK,L6,L5,L7,trivial⟩,?_⟩;rw[u32_xor,aa];refine bS.use (r:=25) (by omega) (by omega) (by omega) ⟨⟨LW,LK,L6,L5,L7,trivial⟩,?_⟩;simp -zeta only [AW,AK,aa,L0,L1,L2,L3,L4,L5,L6,L7,LW,LK,u32_and,u32_xor,tQ,nJ];refine bS.use (r:=2) (by omega) (by omega) (by omega) ⟨⟨L2,L1,L2,L1,trivial⟩,?_⟩;refine bS.use (r:=13) (by omega) (by omega) (by omega) ⟨⟨L2,L1,L2,L1,trivial⟩,?_⟩;rw[u32_xor,aa];refine bS.use (r:=22) (by omega) (by omega) (by omega) ⟨⟨L2,L1,L2,L1,trivial⟩,?_⟩;simp -zeta only [aa,L0,L1,L2,L3,L4,L5,L6,L7,u32_and,u32_xor,tQ,nJ];have hnext:(rnd q w [a,b,c,d,e,f,g,k]).length=8:=rfl;refine ae (v:=.agg (eE (rnd q w [a,b,c,d,e,f,g,k]))) rfl ?_;rw[nv hr8 hnext gr,jl,bg,aa,i64_in (by omega) (by omega)];refine ih (t+1) _ _ (by omega) (by omega) hnext ?_ (Sp.setRow h (j:=0) rfl _);rw[sB hq,sB hw,yU]at he;exact he
     exact loop3 64 0 s G91 rfl (by omega) hs8 hfin s91
    | succ n ih=>
     intro ws G' hn h16 h64 he hs;have hl:ws.length<64:=(by omega);have g3:=au.own (i:=0) hs rfl;have ad:∀ {m:Int}{j:Nat},m=(j:Int)->j<64->aO T bW (.ptr i10 [] 0) (.int .i64 m)=some (.ptr i10 [j] j):=fun hm hj=>qt jG rfl kU rfl hm hj;have ld:∀ {j:Nat},j<ws.length->ag T G' aJ (.ptr i10 [j] j)=some (.int .u32 (ws.getD j 0:Nat)):=fun hj=>wG kU g3 (n7 _ _) (AE hj) rfl;have l7:=ld (j:=ws.length-7) (by omega);have l16:=ld (j:=ws.length-16) (by omega);refine hR48 _ _ _ _ _ _ ?_;rw[aM,aa,aI];refine⟨fun _=>?_,fun h=>absurd (by omega) h⟩;rw[b7,aa,i64_in (by omega) (by omega),ad (j:=ws.length-15) (by omega) (by omega),aa,ld (by omega),aa];rw[b7,aa,i64_in (by omega) (by omega),ad (j:=ws.length-2) (by omega) (by omega),aa,ld (by omega),aa];rw[b7,aa,i64_in (by omega) (by omega),ad (j:=ws.length-16) (by omega) (by omega),aa,l16,aa];rw[rQ (k:=3) (n:=3) rfl (by omega),aa];rw[b7,aa,i64_in (by omega) (by omega),ad (j:=ws.length-7) (by omega) (by omega),aa,l7,aa];rw[rQ (k:=10) (n:=10) rfl (by omega),aa];refine bS.use (r:=7) (by omega) (by omega) (by omega) ⟨⟨l7,l16,trivial⟩,?_⟩;refine bS.use (r:=18) (by omega) (by omega) (by omega) ⟨⟨l7,l16,trivial⟩,?_⟩;rw[u32_xor,aa,u32_xor,aa,nJ,aa,nJ,aa];refine bS.use (r:=17) (by omega) (by omega) (by omega) ⟨⟨l7,l16,trivial⟩,?_⟩;refine bS.use (r:=19) (by omega) (by omega) (by omega) ⟨⟨l7,l16,trivial⟩,?_⟩;rw[u32_xor,aa,u32_xor,aa,nJ,aa];rw[ad (j:=ws.length) rfl hl,aa];refine fg (uq kU g3 (n7 _ _) (qH hl) rfl rfl rfl) ?_;rw[bg,aa,i64_in (by omega) (by omega),sw hl];have key:=ih (ws++[BV ws]) (G'.upd i10 (.own (.agg (filled 64 (ws++[BV ws]))))) (by simp;omega) (by simp;omega) (by simp;omega) he (Sp.setRow hs (j:=0) rfl _);rw[List.length_append]at key;exact key
   have:=loop2 48 (words b 16) G' (by rw[gY]) (by rw[gY];omega) (by rw[gY];omega) hW hs
   rwa [gY]at this
  | succ n ih=>
   intro i G' hn hi hs;have hi16:i<16:=(by omega);have hp':=hp.ch hs.ch;refine hR12 _ _ _ _ _ _ _ _ ?_;rw[aM,aa,aI];refine⟨fun _=>?_,fun h=>absurd (by omega) h⟩;obtain⟨a0,u0,w0⟩:=Hg (j:=at_+4*i) (m:=(at_:Int)+4*(i:Int)) hp' (by omega) (by omega);obtain⟨a1,u1,w1⟩:=Hg (j:=at_+(4*i+1)) (m:=(at_:Int)+4*(i:Int)+1) hp' (by omega) (by omega);obtain⟨a2,u2,w2⟩:=Hg (j:=at_+(4*i+2)) (m:=(at_:Int)+4*(i:Int)+2) hp' (by omega) (by omega);obtain⟨a3,u3,w3⟩:=Hg (j:=at_+(4*i+3)) (m:=(at_:Int)+4*(i:Int)+3) hp' (by omega) (by omega);rw[kP,aa,i64_in (by omega) (by omega),bg,aa,i64_in (by omega) (by omega),u0,aa,w0,aa,rP,aa,tP (k:=24) (n:=24) rfl (by omega),aa];rw[bg,aa,i64_in (by omega) (by omega),u1,aa,w1,aa,rP,aa,tP (k:=16) (n:=16) rfl (by omega),aa,u32_or,aa];rw[bg,aa,i64_in (by omega) (by omega),u2,aa,w2,aa,rP,aa,tP (k:=8) (n:=8) rfl (by omega),aa,u32_or,aa];rw[bg,aa,i64_in (by omega) (by omega),u3,aa,w3,aa,rP,aa,u32_or,aa];rw[Md (UInt8.toNat_lt _) (UInt8.toNat_lt _) (UInt8.toNat_lt _) (UInt8.toNat_lt _)];have hword:((p[at_+4*i].toNat*256+p[at_+(4*i+1)].toNat)*256+p[at_+(4*i+2)].toNat)*256+p[at_+(4*i+3)].toNat=word b i:=by
    have e4:(b.drop (4*i)).take 4=[b[4*i],b[4*i+1],b[4*i+2],b[4*i+3]]:=by
     rw[List.drop_eq_getElem_cons (by omega),List.drop_eq_getElem_cons (by omega),List.drop_eq_getElem_cons (by omega),List.drop_eq_getElem_cons (by omega)];rfl
    rw[word,e4,hbj _ (by omega),hbj _ (by omega),hbj _ (by omega),hbj _ (by omega)];simp[oM]
   rw[hword];have hwl:=gY b i;have ad:aO T bW (.ptr i10 [] 0) (.int .i64 (i:Int))=some (.ptr i10 [i] i):=qt jG rfl kU rfl rfl (by omega);have hnx:=qH (n:=64) (ws:=words b i) (by omega);have hst:=sw (n:=64) (ws:=words b i) (x:=word b i) (by omega);rw[hwl]at hnx hst;rw[ad,aa];refine fg (uq kU (au.own (i:=0) hs rfl) (n7 _ _) hnx rfl rfl rfl) ?_;rw[bg,aa,i64_in (by omega) (by omega),hst,<- zp];exact ih (i+1) _ (by omega) (by omega) (Sp.setRow hs (j:=0) rfl _)
 exact loop1 16 0 G11 rfl (by omega) s11
end
end Go.Esc.M
namespace Go.Esc.M
open Go Go.Esc
def BB (x:List UInt8×Int):ah:=.tuple [.agg (x.1.map u8v),.int .i64 x.2]
theorem hi0 (x:List UInt8×Int):aP (BB x) 0=some (.agg (x.1.map u8v)):=rfl
theorem hi1 (x:List UInt8×Int):aP (BB x) 1=some (.int .i64 x.2):=rfl
theorem uh {a b:List UInt8}(ha:a.length=32) (hb:b.length=32):az T .eql ar (.agg (a.map u8v)) (.agg (b.map u8v))=some (.bool (decide (a=b))):=wT bZ rfl cW rfl rfl ha hb
theorem B6 {a b:List UInt8}(ha:a.length=32) (hb:b.length=32):az T .neq ar (.agg (a.map u8v)) (.agg (b.map u8v))=some (.bool (!decide (a=b))):=Bu bZ rfl cW rfl rfl ha hb
theorem rI:bj T ar []=some (.agg ((List.replicate 32 (0:UInt8)).map u8v)):=rfl
theorem AA {h:List UInt8}(hl:h.length=32):dD dQ (.agg (h.map u8v))=true:=by simp[dD,sz,gX (kd h),hl,dQ,ah.isAgg,kZ.isAgg]
theorem MB {h:List UInt8}(hl:h.length=32):sz dm=sz (.agg (h.map u8v)):=by rw[mF,sz,sz,gX (kd h),gX (kd _)];simp[hl]
theorem Mk (h:List UInt8):okv (.agg (h.map u8v))=true:=by simp[okv,kM]
end Go.Esc.M
namespace Go.Esc.M
open Go Go.Esc
section
variable {G:ak}{Q:ah->ak->Prop}
theorem KH {F0:List AId}{G0:ak}{ps:List LP}{s:ah}{l x:List UInt8}{i:Nat}{K:ah->ak->Prop}(hs:Sp F0 G0 ps G) (hi:ps[i]?=some (bm 1 s (l.map u8v))) (hl:l.length+x.length≤140737488355328)
  (hK:∀ s' G',Sp F0 G0 (ps.set i (bm 1 s' ((l++x).map u8v))) G'->K s' G'):cn T G aR bH s (.str x) K:=by
 obtain⟨F,ho,_⟩:=hs.get hi;refine r7 (T:=T) (e:=cm) (si:=fJ) (ie:=gi) (vs:=x.map u8v) eC rfl cW rfl (by decide) fS (.inl rfl) ho (by simp[gq,gi,u8v,Function.comp_def]) (kd _) (kM _) ?_ fun s' G2 ho2 hk=>hK s' G2 ?_
 ·simp only[List.length_map,gi];omega
 ·refine hs.call hi (bm 1 s' ((l++x).map u8v)) fun F h k=>?_;obtain⟨_,rfl⟩:=h;exact k _ _ ⟨by rw[List.map_append];exact ho2,rfl⟩ hk.ch
theorem Sp.FA {F0:List AId}{G0:ak}{ps:List LP}(hs:Sp F0 G0 ps G) (n:Nat):Sp F0 G0 (bm n .nilSlice []::ps) G:=hs.new (p:=bm n .nilSlice []) ⟨.inl ⟨rfl,rfl⟩,rfl⟩ (Ch.refl _ _)
theorem eO.use {s:List UInt8}(hl:s.length≤140737488355000) (hQ:∀ v G',Sp [] G [bm 1 v ((pad s).map u8v)] G'->Q v G'):al P eO.n [.str s] G Q:=by
 refine eO.sound ?_;unfold eO.S;refine KH (i:=0) (l:=[]) (Sp.FA (Sp.nil G) 1) rfl (by simp;omega) fun v1 G2 s2=>?_;refine Aw (i:=0) (b:=128) s2 rfl (by simp;omega) fun v5 G6 s6=>?_;intro R7 hR7;obtain⟨zt,hzt⟩:∃ zt,zt=(119-s.length % 64) % 64:=⟨_,rfl⟩;have loop1:∀ (n z:Nat) (pd:ah) (G':ak),zt-z=n->z≤zt->Sp [] G [bm 1 pd ((s++(128:UInt8)::List.replicate z 0).map u8v)] G'->R7 [.str s,pd] G':=by
  intro n;induction n with
  | zero=>
   intro z pd G' hn hz hs;have:z=zt:=(by omega);subst this;obtain⟨F,ho,_⟩:=hs.get (i:=0) rfl;refine hR7 _ _ _ ?_;have hlz:(s++(128:UInt8)::List.replicate z 0).length=s.length+(z+1):=(by simp);rw[tZ ho,aa,hlz,q9 _ _ _ _ _ (by decide),aa];have hm:((s.length+(z+1):Nat):Int).tmod 64=56:=by
    rw[Int.tmod_eq_emod_of_nonneg (by omega)];omega
   rw[hm,cD,aa,dC];refine⟨fun h=>absurd rfl h,fun _=>?_⟩;intro R18 hR18;have loop2:∀ (m:Nat) (bs:List UInt8) (pd:ah) (G':ak),m≤8->bs++bytesBE m (8*s.length)=pad s->Sp [] G [bm 1 pd (bs.map u8v)] G'->R18 [.str s,pd,.int .i64 ((m:Int)-1)] G':=by
    intro m;induction m with
    | zero=>
     intro bs pd G' hm he hs;rw[bytesBE,List.append_nil]at he;subst he;refine hR18 _ _ _ _ ?_;rw[fI,aa,aI];refine⟨fun h=>absurd h (by decide),fun _=>?_⟩;exact hQ _ _ hs
    | succ m ih=>
     intro bs pd G' hm he hs;have ei:((m+1:Nat):Int)-1=(m:Int):=(by omega);rw[ei];refine hR18 _ _ _ _ ?_;rw[fI,aa,aI];refine⟨fun _=>?_,fun h=>absurd (by omega) h⟩;show wv (some (.int .i64 (s.length:Nat))) _;rw[aa,kP,aa,i64_in (by omega) (by omega),kP,aa,i64_in (by omega) (by omega)];have e8:(8:Int)*(s.length:Nat)=((8*s.length:Nat):Int):=(by omega);rw[e8,Kp (m:=m) (by omega) (by omega),aa,jk iD cW rfl,aa,zn];have eb:(ah.int .u8 (((8*s.length/2 ^ (8*m):Nat):Int) % 256))=u8v (UInt8.ofNat (8*s.length/2 ^ (8*m))):=(by rw[nr];rfl);rw[eb];have hbl':bs.length+(m+1)≤s.length+72:=by
      have h1:=congrArg List.length he;have h2:=vq s;rw[List.length_append,length_bytesBE]at h1;omega
     refine Aw (i:=0) hs rfl (by omega) fun s' G9 s9=>?_;rw[b7,aa,i64_in (by omega) (by omega)];refine ih _ s' G9 (by omega) ?_ s9;rw[bytesBE]at he;rw[List.append_assoc,List.singleton_append];exact he
   exact loop2 8 (s++(128:UInt8)::List.replicate z 0) pd G' (by omega) (by rw[pad,<- hzt];simp) hs
  | succ n ih=>
   intro z pd G' hn hz hs;obtain⟨F,ho,_⟩:=hs.get (i:=0) rfl;refine hR7 _ _ _ ?_;have hlz:(s++(128:UInt8)::List.replicate z 0).length=s.length+(z+1):=(by simp);rw[tZ ho,aa,hlz,q9 _ _ _ _ _ (by decide),aa];have hm:((s.length+(z+1):Nat):Int).tmod 64≠56:=by
    rw[Int.tmod_eq_emod_of_nonneg (by omega)];omega
   rw[cD,aa,dC];refine⟨fun _=>?_,fun h=>absurd h hm⟩;refine Aw (i:=0) (b:=0) hs rfl (by rw[hlz];omega) fun s' G9 s9=>?_;refine ih (z+1) s' G9 (by omega) (by omega) ?_;have:s++(128:UInt8)::List.replicate (z+1) 0=(s++(128:UInt8)::List.replicate z 0)++[0]:=(by rw[List.replicate_succ'];simp);rw[this];exact s9
 exact loop1 zt 0 v5 G6 rfl (by omega) s6
theorem dJ.use {s:List UInt8}(hl:s.length≤140737488355000) (hQ:∀ G',Ch [] G [] G'->Q (.agg ((sha s).map u8v)) G'):al P dJ.n [.str s] G Q:=by
 refine dJ.sound ?_;unfold dJ.S;rw[mF];unfold sha at hQ;obtain⟨D,hD⟩:∃ D,chain ((pad s).length/64) Ba (pad s)=D:=⟨_,rfl⟩;rw[hD]at hQ;have hD8:D.length=8:=by rw[<- hD];exact se _ _ rfl
 have hp:=vq s;intro i1 f1;have s1:=(Sp.nil G).row f1 (.agg ((List.replicate 32 (0:UInt8)).map u8v));refine eO.use hl fun v3 G4 s4=>?_;obtain⟨F4,⟨h4,_⟩,c4⟩:=s4.out;have s4:=s1.new (p:=bm 1 v3 ((pad s).map u8v)) (F':=F4) ⟨h4,by assumption⟩ c4;refine ae (v:=.agg (eE Ba)) (by kernel_rfl) ?_;rw[z8];intro i6 f6;have s7:=s4.row f6 (.agg (eE (List.replicate 8 0)));rw[nv (by simp) (ws':=Ba) rfl (au.own (i:=0) s7 rfl),jl];have s8:=Sp.setRow s7 (j:=0) rfl (.agg (eE Ba));intro R9 hR9;have loop:∀ (n at_:Nat) (h:List Nat) (G':ak),(pad s).length=at_+64*n->h.length=8->chain n h ((pad s).drop at_)=D ->
   Sp [] G [au i6 (.agg (eE h)),bm 1 v3 ((pad s).map u8v),au i1 (.agg ((List.replicate 32 (0:UInt8)).map u8v))] G'->R9 [.ptr i1 [] 0,v3,.ptr i6 [] 0,.int .i64 (at_:Int)] G':=by
  intro n;induction n with
  | zero=>
   intro at_ h G' hm hh he hs;have he:h=D:=he;subst he;obtain⟨F,ho,_⟩:=hs.get (i:=1) rfl;refine hR9 _ _ _ _ _ ?_;rw[tZ ho,aa,aM,aa,aI];refine⟨fun h=>absurd h (by omega),fun _=>?_⟩;intro i22 f22;have s23:=hs.row f22 (.agg ((List.replicate 32 (0:UInt8)).map u8v));intro R24 hR24;refine yx (p:=0) (q:=1) (x0:=.ptr i1 [] 0) hh (by simp) (by decide) (ps:=[au i22 (.agg ((List.replicate 32 (0:UInt8)).map u8v)),au i6 (.agg (eE h)),bm 1 v3 ((pad s).map u8v),au i1 (.agg ((List.replicate 32 (0:UInt8)).map u8v))]) rfl R24 _ hR24 s23 fun G9 h9=>?_;have hz:=pj h;rw[bM hz (au.own (i:=0) h9 rfl),aa,gA (by simp) hz (au.own (i:=3) h9 rfl),jl,bM hz (ak.dR _ _ _),aa];exact hQ _ (Sp.setRow h9 (j:=3) rfl (.agg ((qk h).map u8v))).ch
  | succ n ih=>
   intro at_ h G' hm hh he hs;obtain⟨F,ho,_⟩:=hs.get (i:=1) rfl;refine hR9 _ _ _ _ _ ?_;rw[tZ ho,aa,aM,aa,aI];refine⟨fun _=>?_,fun h=>absurd (by omega) h⟩;rw[n4 hh (au.own (i:=0) hs rfl),aa];refine fw.use hh ho.is (by omega) (by omega) fun G9 c9=>?_;have s9:=hs.tmp c9;have hc8:(compress h (((pad s).drop at_).take 64)).length=8:=pC hh;rw[nv hh hc8 (au.own (i:=0) s9 rfl),jl,bg,aa,i64_in (by omega) (by omega)];refine ih (at_+64) _ _ (by omega) hc8 ?_ (Sp.setRow s9 (j:=0) rfl _);rw[<- List.drop_drop];exact he
 exact loop ((pad s).length/64) 0 Ba _ (by omega) rfl hD s8
theorem fP.use {key:List UInt8}{c:UInt8}(hk:key.length=32) (hQ:∀ G',Ch [] G [] G'->Q (.str (mi key c)) G'):al P fP.n [.agg (key.map u8v),u8v c] G Q:=by
 refine fP.sound ?_;unfold fP.S;intro i1 f1;have s1:=Sp.FA ((Sp.nil G).row f1 (.agg (key.map u8v))) 1;intro R3 hR3;have hX:=nM hk c;have loop:∀ (n j:Nat) (v:ah) (G':ak),64-j=n->j≤64->Sp [] G [bm 1 v (((mi key c).take j).map u8v),au i1 (.agg (key.map u8v))] G'->R3 [u8v c,.ptr i1 [] 0,v,.int .i64 (j:Int)] G':=by
  intro n;induction n with
  | zero=>
   intro j v G' hn hj hs;have:j=64:=(by omega);subst this;obtain⟨F,ho,_⟩:=hs.get (i:=0) rfl;refine hR3 _ _ _ _ _ ?_;rw[aM,aa,aI];refine⟨fun h=>absurd h (by decide),fun _=>?_⟩;rw[List.take_of_length_le (by omega)]at ho;rw[km eC rfl cW rfl fS rfl ho.is,aa];exact hQ _ hs.ch
  | succ n ih=>
   intro j v G' hn hj hs;have hj64:j<64:=(by omega);refine hR3 _ _ _ _ _ ?_;rw[aM,aa,aI];refine⟨fun _=>?_,fun h=>absurd (by omega) h⟩;rw[aM,aa,aI];have next:∀ (b:UInt8),b=(mi key c)[j]'(by omega)->bu T aR 1 [(0,u8v b)] G' fun v21 G22=>cn T G22 aR aR v v21 fun v23 G24=>wv (az T .add ay (.int .i64 (j:Int)) (.int .i64 1)) fun v33=>R3 [u8v c,.ptr i1 [] 0,v23,v33] G24:=by
    intro b hb;refine Aw (i:=0) hs rfl (by simp;omega) fun s' G9 s9=>?_;rw[bg,aa,i64_in (by omega) (by omega)];refine ih (j+1) s' G9 (by omega) (by omega) ?_;rw[List.take_succ_eq_append_getElem (by omega),<- hb];exact s9
   refine⟨fun h32=>?_,fun h32=>?_⟩
   ·rw[nQ (by omega),aa,pQ (by omega) (au.own (i:=1) hs rfl),aa,u8_xor,aa];refine next _ ?_
    simp only[mi,List.getElem_map];rw[List.getElem_append_left (by omega)]
   ·have e0:az T .xor cm (.int .u8 0) (u8v c)=some (u8v (0 ^^^ c)):=u8_xor 0 c;rw[e0,aa];refine next _ ?_
    simp only[mi,List.getElem_map];rw[List.getElem_append_right (by omega),List.getElem_replicate]
 exact loop 64 0 .nilSlice _ rfl (by omega) s1
theorem fx.use {h:List UInt8}(hk:h.length=32) (hQ:∀ G',Ch [] G [] G'->Q (.str h) G'):al P fx.n [.agg (h.map u8v)] G Q:=by
 refine fx.sound ?_;unfold fx.S;intro i1 f1;have s1:=Sp.FA ((Sp.nil G).row f1 (.agg (h.map u8v))) 1;intro R3 hR3;have loop:∀ (n j:Nat) (v:ah) (G':ak),32-j=n->j≤32->Sp [] G [bm 1 v ((h.take j).map u8v),au i1 (.agg (h.map u8v))] G'->R3 [.ptr i1 [] 0,v,.int .i64 (j:Int)] G':=by
  intro n;induction n with
  | zero=>
   intro j v G' hn hj hs;have:j=32:=(by omega);subst this;obtain⟨F,ho,_⟩:=hs.get (i:=0) rfl;refine hR3 _ _ _ _ ?_;rw[aM,aa,aI];refine⟨fun h=>absurd h (by decide),fun _=>?_⟩;rw[List.take_of_length_le (by omega)]at ho;rw[km eC rfl cW rfl fS rfl ho.is,aa];exact hQ _ hs.ch
  | succ n ih=>
   intro j v G' hn hj hs;refine hR3 _ _ _ _ ?_;rw[aM,aa,aI];refine⟨fun _=>?_,fun h=>absurd (by omega) h⟩;rw[nQ (by omega),aa,pQ (by omega) (au.own (i:=1) hs rfl),aa];refine Aw (i:=0) hs rfl (by simp;omega) fun s' G9 s9=>?_;rw[bg,aa,i64_in (by omega) (by omega)];refine ih (j+1) s' G9 (by omega) (by omega) ?_;rw[List.take_succ_eq_append_getElem (by omega)];exact s9
 exact loop 32 0 .nilSlice _ rfl (by omega) s1
theorem gB.use {key text:List UInt8}(hk:key.length=32) (hl:text.length≤140737488354000) (hQ:∀ G',Ch [] G [] G'->Q (.agg ((mac key text).map u8v)) G'):al P gB.n [.agg (key.map u8v),.str text] G Q:=by
 refine gB.sound ?_;unfold gB.S;rw[mF];intro i1 f1;have s1:=(Sp.nil G).row f1 (.agg (key.map u8v));intro i3 f3;have s3:=s1.row f3 (.agg ((List.replicate 32 (0:UInt8)).map u8v));have hlo:=nM hk 0x36;have hlo':=nM hk 0x5c;rw[bM hk (au.own (i:=1) s3 rfl),aa,aa];refine fP.use (c:=0x5c) hk fun G8 c8=>?_;have s8:=s3.tmp c8;refine⟨⟨bM hk (au.own (i:=1) s8 rfl),trivial⟩,?_⟩;refine fP.use (c:=0x36) hk fun G10 c10=>?_;have s10:=s8.tmp c10;rw[tM _ _ (by omega),aa];refine dJ.use (by simp;omega) fun G13 c13=>?_;have s13:=s10.tmp c13;have hs1:=gU (mi key 0x36++text);refine fx.use hs1 fun G15 c15=>?_;have s15:=s13.tmp c15;rw[tM _ _ (by omega),aa];refine dJ.use (by simp;omega) fun G18 c18=>?_;have s18:=s15.tmp c18;have hm:(mac key text).length=32:=gU _;show wg (aF T G18 ar (.ptr i3 [] 0) (.agg ((mac key text).map u8v))) _;rw[gA (by simp) hm (au.own (i:=0) s18 rfl),jl,bM hm (ak.dR _ _ _),aa];exact hQ _ (Sp.setRow s18 (j:=0) rfl (.agg ((mac key text).map u8v))).ch
theorem fO.use {v:ah}{xs:List (List UInt8)}(hl:ff 1 G v (xs.map .str)) (hN:xs.length≤9223372036854775807) (hlen:xs.flatten.length≤140737488355000) (hQ:∀ G',Ch [] G [] G'->Q (.agg ((sha xs.flatten).map u8v)) G'):al P fO.n [v] G Q:=by
 refine fO.sound ?_;unfold fO.S;rw[mF];intro i1 f1;have s1:=(Sp.nil G).row f1 (.agg ((List.replicate 32 (0:UInt8)).map u8v));revert s1;generalize ak.upd _ i1 _=G2;intro s1 R hR;have hl1:=hl.ch s1.ch;have hle:∀ j,(xs.take j).flatten.length≤xs.flatten.length:=fun j=>by
  conv=>rhs;rw[<- List.take_append_drop j xs,List.flatten_append,List.length_append]
  omega
 have loop:∀ (n j:Nat),xs.length-j=n->j≤xs.length->R [v,.ptr i1 [] 0,.str (xs.take j).flatten,.int .i64 (j:Int)] G2:=by
  intro n;induction n with
  | zero=>
   intro j hn hj;have:j=xs.length:=(by omega);subst this;refine hR _ _ _ _ _ ?_;rw[hl1.len (i:=kf) m9 rfl,List.length_map,aa,aM,aa,aI];refine⟨fun h=>absurd h (by omega),fun _=>?_⟩;rw[List.take_length];refine dJ.use hlen fun G16 c16=>?_;have s16:=s1.tmp c16;refine fg (gA (by simp) (gU _) (au.own (i:=0) s16 rfl)) ?_;have s17:=Sp.setRow (j:=0) s16 rfl (.agg ((sha xs.flatten).map u8v));refine ae (bM (gU _) (au.own (i:=0) s17 rfl)) ?_;exact hQ _ s17.ch
  | succ n ih=>
   intro j hn hj;obtain⟨x,hx⟩:∃ x,xs[j]?=some x:=⟨_,List.getElem?_eq_getElem (by omega)⟩;obtain⟨a,ha,hla⟩:=hl1.at_ (k:=.i64) (j:=j) (i:=kf) (ie:=iO) (T:=T) (t:=iE) (e:=bH) (c:=.str x) m9 rfl fS (by rw[List.getElem?_map,hx];rfl) rfl;have et:(xs.take (j+1)).flatten=(xs.take j).flatten++x:=(by rw[List.take_add_one,hx];simp);have h1:=hle (j+1);rw[et,List.length_append]at h1;refine hR _ _ _ _ _ ?_;rw[hl1.len (i:=kf) m9 rfl,List.length_map,aa,aM,aa,aI];refine⟨fun _=>?_,fun h=>absurd (by omega) h⟩;rw[ha,aa,hla,aa,tM _ _ (by omega),aa,bg,aa,i64_in (by omega) (by omega),<- et];exact ih (j+1) (by omega) (by omega)
 exact loop _ 0 rfl (by omega)
end
end Go.Esc.M
namespace Go.Esc.M
open Go Go.Esc
def oP (p i:Nat):Nat:=p/2 ^ i % 2
def lev:Nat->Nat->Nat
 | 0,_=>0
 | n+1,p=>if p % 2=1 then 0 else lev n (p/2)+1
def level (p:Nat):Nat:=lev 48 p
theorem Jp:∀ n p,lev n p≤n
 | 0,_=>Nat.le_refl _
 | n+1,p=>by
  unfold lev;split
  ·omega
  ·have:=Jp n (p/2);omega
theorem GP:∀ n p,2 ^ lev n p ∣ p
 | 0,p=>by simp[lev]
 | n+1,p=>by
  unfold lev;split
  ·simp
  ·rename_i h;have:=GP n (p/2);rw[Nat.pow_succ,Nat.mul_comm];have h2:p=2*(p/2):=(by omega);rw[h2];have e:2*(p/2)/2=p/2:=(by omega);rw[e];exact Nat.mul_dvd_mul_left 2 this
theorem GO:∀ n p,lev n p<n->p/2 ^ lev n p % 2=1
 | 0,p,h=>by omega
 | n+1,p,h=>by
  unfold lev at h ⊢;split
  ·rename_i h1;simpa using h1
  ·rename_i h1;rw[if_neg h1]at h;have:=GO n (p/2) (by omega)
   rwa [Nat.div_div_eq_div_mul,Nat.mul_comm,<- Nat.pow_succ]at this
theorem rq (p:Nat):level p≤48:=Jp 48 p
theorem BZ (p:Nat):2 ^ level p ∣ p:=GP 48 p
theorem FB:level 0=48:=by decide
theorem BX {p:Nat}(h0:p≠0) (hp:p<2 ^ 48):level p<48:=by
 refine Nat.lt_of_le_of_ne (rq p) fun h=>?_;have:=BZ p;rw[h]at this;exact h0 (Nat.eq_zero_of_dvd_of_lt this hp)
theorem FC {p:Nat}(h0:p≠0) (hp:p<2 ^ 48):∃ m,p=2 ^ level p*(2*m+1):=by
 have h1:=GO 48 p (BX h0 hp);obtain⟨c,hc⟩:=BZ p;refine⟨c/2,?_⟩;have hpos:0<2 ^ level p:=Nat.pow_pos (by decide);have h2:p/2 ^ level p=c:=Nat.div_eq_of_eq_mul_right hpos hc;have h1':p/2 ^ level p % 2=1:=h1;rw[h2]at h1';have:2*(c/2)+1=c:=by omega
 rw[this,<- hc]
theorem Jo {p k m:Nat}(hk:k<48) (h:p=2 ^ k*(2*m+1)):level p=k:=by
 have hodd:∀ n k m,k<n->lev n (2 ^ k*(2*m+1))=k:=by
  intro n;induction n with
  | zero=>intro k m h;omega
  | succ n ih=>
   intro k m h;unfold lev;cases k with
   | zero=>rw[if_pos (by omega)]
   | succ k=>
    have e:2 ^ (k+1)*(2*m+1)=2*(2 ^ k*(2*m+1)):=(by rw[Nat.pow_succ,Nat.mul_comm (2 ^ k) 2,Nat.mul_assoc]);rw[e,if_neg (by omega),show 2*(2 ^ k*(2*m+1))/2=2 ^ k*(2*m+1) by omega,ih k m (by omega)]
 rw[h];exact hodd 48 k m hk
def rB (h:List UInt8) (b:Nat):List UInt8:=h.set (b/8) (h.getD (b/8) 0 ^^^ UInt8.ofNat (2 ^ (b % 8)))
def qz (pl b:Nat) (h:List UInt8):List UInt8:=if oP pl b=1 then sha (rB h b) else h
def mj (pl:Nat):Nat->List UInt8->List UInt8
 | 0,h=>h
 | k+1,h=>mj pl k (qz pl k h)
def dn (pl k:Nat):Nat->List UInt8->List UInt8
 | 0,h=>h
 | n+1,h=>dn pl k n (qz pl (k+n) h)
theorem C3 {pl b:Nat}{h:List UInt8}(hl:h.length=32):(qz pl b h).length=32:=by
 unfold qz;split
 ·exact gU _
 ·exact hl
theorem mB {pl:Nat}:∀ (k:Nat) {h:List UInt8},h.length=32->(mj pl k h).length=32
 | 0,h,hl=>hl
 | k+1,h,hl=>mB k (C3 hl)
theorem Hj (p k i:Nat):oP p (k+i)=oP (p/2 ^ k) i:=by
 unfold oP;rw[Nat.pow_add,Nat.div_div_eq_div_mul]
def Fc:List Int:=[0,1,56,2,57,49,28,3,61,58,42,50,38,29,17,4,62,47,59,36,45,43,51,22,53,39,33,30,24,18,12,5,63,55,48,27,60,41,37,16,46,35,44,21,52,32,23,11,54,26,40,15,34,20,31,10,25,14,19,9,13,8,7,6]
theorem Lq:∀ k:Fin 64,Fc[(2 ^ k.val*0x03f79d71b4ca8b09 % 18446744073709551616)/288230376151711744]?=some ((k.val:Nat):Int):=by decide +kernel
theorem KX {k m:Nat}(h:2 ^ k*(2*m+1)<2 ^ 64):(2 ^ k*(2*m+1)) &&& (2 ^ 64-2 ^ k*(2*m+1))=2 ^ k:=by
 have hk:0<2 ^ k:=Nat.pow_pos (by decide);have hk64:k<64:=by
  refine Nat.lt_of_not_le fun hle=>?_;have h1:2 ^ 64≤2 ^ k:=Nat.pow_le_pow_right (by decide) hle;have h2:2 ^ k≤2 ^ k*(2*m+1):=Nat.le_mul_of_pos_right _ (by omega);omega
 obtain⟨y,hy⟩:∃ y,2 ^ k*(2*m+1)=y+1:=⟨2 ^ k*(2*m+1)-1,by
  have:2 ^ k≤2 ^ k*(2*m+1):=Nat.le_mul_of_pos_right _ (by omega)
  omega⟩
 have hy2:y=2 ^ k*(2*m)+(2 ^ k-1):=by
  rw[Nat.mul_add]at hy;omega
 apply Nat.eq_of_testBit_eq;intro i;have e1:(2 ^ 64-2 ^ k*(2*m+1)).testBit i=(decide (i<64) && !y.testBit i):=by
  rw[hy];exact Nat.testBit_two_pow_sub_succ (by omega) i
 have e2:y.testBit i=if i<k then (2 ^ k-1).testBit i else (2*m).testBit (i-k):=by
  rw[hy2];exact Nat.testBit_two_pow_mul_add _ (by omega) i
 have e3:(2 ^ k*(2*m+1)).testBit i=if i<k then false else (2*m+1).testBit (i-k):=by
  have:=Nat.testBit_two_pow_mul_add (i:=k) (2*m+1) (b:=0) (by omega) i;rw[Nat.add_zero]at this;rw[this];simp
 rw[Nat.testBit_and,e1,e2,e3,Nat.testBit_two_pow];by_cases hik:i<k
 ·rw[if_pos hik,Bool.false_and,dF_ (by omega)]
 ·rw[if_neg hik,if_neg hik];by_cases he:i=k
  ·subst he;rw[Nat.sub_self,dT_ hk64,dT_ rfl];simp[Nat.testBit_zero]
  ·rw[dF_ (show ¬ k=i by omega)];obtain⟨j,hj⟩:∃ j,i-k=j+1:=⟨i-k-1,by omega⟩;rw[hj,Nat.testBit_succ,Nat.testBit_succ];have d1:(2*m+1)/2=m:=(by omega);have d2:2*m/2=m:=(by omega);rw[d1,d2];cases m.testBit j<;>simp
end Go.Esc.M
namespace Go.Esc.M
open Go Go.Esc
def Tab (G:ak):Prop:=G jK=some (.ro (Hy Fc))
theorem Tab.mono {G G':ak}(h:Tab G) (hle:pa G G'):Tab G':=hle _ _ h
def okN (n:Int):Bool:=decide (0≤n) && decide (n≤281474976710655)
def pl (n:Int):Nat:=(281474976710655-n).toNat
theorem GJ {n:Int}:okN n=true ↔ 0≤n/\n≤281474976710655:=by simp[okN]
theorem yg {n:Int}(h:okN n=true):281474976710655-n=((pl n:Nat):Int)/\pl n<2 ^ 48:=by
 have:=GJ.1 h;unfold pl;omega
def mE:List UInt8:=List.replicate 32 0
def jS (s:List UInt8) (n:Int):List UInt8×Int:=bif okN n then (mj (pl n) 48 s,0) else (mE,90)
def oc (n:Int):Int×Int:=bif okN n then ((level (pl n):Nat),0) else (0,90)
def kN (s:List UInt8) (a b:Int):List UInt8×Int:=bif okN a && okN b then (if pl a/2 ^ level (pl a)=pl b/2 ^ level (pl a) then (mj (pl b) (level (pl a)) s,0) else (mE,5)) else (mE,90)
def Gu (x:Int×Int):ah:=.tuple [.int .i64 x.1,.int .i64 x.2]
theorem ii0 (x:Int×Int):aP (Gu x) 0=some (.int .i64 x.1):=rfl
theorem ii1 (x:Int×Int):aP (Gu x) 1=some (.int .i64 x.2):=rfl
theorem u64_and {T:Tbl}{t:TypeId}{a b:Nat}(ha:a<2 ^ 64) (hb:b<2 ^ 64):az T .and t (.int .u64 (a:Int)) (.int .u64 (b:Int))=some (.int .u64 ((a &&& b:Nat):Int)):=by
 have hbits:IntKind.u64.bits=64:=rfl;have e8:∀ x:Nat,(BitVec.ofInt 64 (x:Int)).toNat=x % 2 ^ 64:=fun x=>by rw[BitVec.ofInt_natCast,BitVec.toNat_ofNat]
 rw[sY,rL,hbits,BitVec.toNat_and,e8,e8,Nat.mod_eq_of_lt ha,Nat.mod_eq_of_lt hb];have:a &&& b<2 ^ 64:=Nat.and_lt_two_pow _ hb;congr 2;omega
theorem LD (i c:Nat) (hc:c≠0) (hi:i≤1000000) {t:TypeId}{T:Tbl}{x:Int}(hx:x=(c:Int)):az T .quo t (.int .i64 (i:Int)) (.int .i64 x)=some (.int .i64 ((i/c:Nat):Int)):=by
 subst hx;rw[zw _ _ _ _ _ (by omega),zG];have:i/c≤i:=Nat.div_le_self _ _;obtain⟨q,hq⟩:∃ q,q=i/c:=⟨_,rfl⟩;rw[<- hq]at this ⊢;rw[i64_in (by omega) (by omega)]
theorem LC (i c:Nat) (hc:c≠0) {t:TypeId}{T:Tbl}{x:Int}(hx:x=(c:Int)):az T .rem t (.int .i64 (i:Int)) (.int .i64 x)=some (.int .i64 ((i % c:Nat):Int)):=by
 subst hx;rw[q9 _ _ _ _ _ (by omega),BC]
theorem Lz {p b:Nat}(hb:b≤63) {t:TypeId}{T:Tbl}{kk:IntKind}:az T .shr t (.int .i64 (p:Int)) (.int kk (b:Int))=some (.int .i64 ((p/2 ^ b:Nat):Int)):=by
 rw[nB _ _ _ _ _ _ (by omega)];have h1:min (b:Int).toNat IntKind.i64.bits=b:=by
  have:IntKind.i64.bits=64:=rfl;omega
 have h2:((2:Int) ^ b)=((2 ^ b:Nat):Int):=by simp
 rw[h1,h2,Int.fdiv_eq_ediv_of_nonneg _ (Int.natCast_nonneg _)];congr 2
theorem ML (p:Nat) {t:TypeId}{T:Tbl}:az T .and t (.int .i64 (p:Int)) (.int .i64 1)=some (.int .i64 ((p % 2:Nat):Int)):=by
 have h:=EM (p:Int) 1 (by decide);rw[sY];have e1:((2 ^ 1-1:Nat):Int)=1:=by decide
 have e2:((2 ^ 1:Nat):Int)=2:=by decide
 rw[e1,e2]at h;rw[h];congr 2
theorem Mh {b:Nat}(hb:b<8) {t:TypeId}{T:Tbl}{kk:IntKind}:az T .shl t (.int .u8 1) (.int kk (b:Int))=some (u8v (UInt8.ofNat (2 ^ b))):=by
 rw[zv _ _ _ _ _ _ (by omega),zn,nr];have h1:min (b:Int).toNat IntKind.u8.bits=b:=by
  have:IntKind.u8.bits=8:=rfl;omega
 have h2:((2:Int) ^ b)=((2 ^ b:Nat):Int):=by simp
 rw[h1,h2,Int.one_mul];congr 2
section
variable {F0:List AId}{G0 G:ak}{ps:List LP}{Q:ah->ak->Prop}
theorem dH.use {x:Nat}(hx:x<2 ^ 48) (hT:Tab G) (hQ:Q (.int .i64 ((if x=0 then 64 else level x:Nat):Int)) G):al P dH.n [.int .u64 (x:Int)] G Q:=by
 refine dH.sound ?_;unfold dH.S;rw[bB,aa,aI];refine⟨fun h0=>?_,fun h0=>?_⟩
 ·rw[if_pos (by omega)]at hQ;exact hQ
 rw[if_neg (by omega)]at hQ;have hx0:x≠0:=by omega
 obtain⟨m,hm⟩:=FC hx0 hx;have hl:=BX hx0 hx;have hp48:(2:Nat) ^ 48≤2 ^ 64:=by decide
 have e64:(2:Nat) ^ 64=18446744073709551616:=by decide
 rw[Gl,aa,rL];have hneg:(0-(x:Int)) % 18446744073709551616=((2 ^ 64-x:Nat):Int):=by omega
 rw[hneg,u64_and (by omega) (by omega),aa];have hand:x &&& (2 ^ 64-x)=2 ^ level x:=by
  have:=KX (k:=level x) (m:=m) (by rw[<- hm];omega)
  rwa [<- hm]at this
 rw[hand];obtain⟨k,hk⟩:∃ k,k=level x:=⟨_,rfl⟩;rw[<- hk]at hQ hl ⊢;have htab:=Lq ⟨k,by omega⟩;dsimp only at htab;obtain⟨idx,hidx⟩:∃ i,i=(2 ^ k*0x03f79d71b4ca8b09 % 18446744073709551616)/288230376151711744:=⟨_,rfl⟩;have hi64:idx<64:=by rw[hidx];omega
 rw[<- hidx]at htab;rw[kP,aa,rL];have hmul:(((2 ^ k:Nat):Int)*285870213051353865) % 18446744073709551616=((2 ^ k*0x03f79d71b4ca8b09 % 18446744073709551616:Nat):Int):=by omega
 rw[hmul];have hshr:az T .shr j1 (.int .u64 ((2 ^ k*0x03f79d71b4ca8b09 % 18446744073709551616:Nat):Int)) (.int .u64 58)=some (.int .u64 (idx:Int)):=by
  rw[nB _ _ _ _ _ _ (by decide)];have h1:min (58:Int).toNat IntKind.u64.bits=58:=rfl;have h2:((2:Int) ^ 58)=((288230376151711744:Nat):Int):=by decide
  rw[h1,h2,Int.fdiv_eq_ediv_of_nonneg _ (Int.natCast_nonneg _),hidx];congr 2
 refine ae hshr ?_;refine ae (pT (j:=idx) sK rfl cW rfl (by omega)) ?_;have hld:ag T G cm (.ptr jK ([]++[idx]) (0+idx*gi.size))=some (.int .u8 (k:Int)):=by
  have hz:(Fc.map (ah.int .u8))[idx]?=some (.int .u8 (k:Int)):=by rw[List.getElem?_map,htab];rfl
  have hu:uni 1 (Fc.map (ah.int .u8))=true:=by simp[uni,sz]
  have hs:szs ((Fc.map (ah.int .u8)).take idx)=idx:=by
   have:=rb hu (j:=idx) (by have:=(List.getElem?_eq_some_iff.1 hz).1;omega);rw[this,Nat.mul_one]
  have hT':G jK=some (.ro (Hy Fc)):=hT;have hsub:nI G (.ptr jK [idx] idx)=some (.int .u8 (k:Int)):=by
   simp only[nI,hT',mQ,Hy,sub,hs,Nat.le_refl,if_true,hz,Nat.sub_self]
  show ag T G cm (.ptr jK [idx] (0+idx*1))=_;rw[Nat.zero_add,Nat.mul_one];simp only[ag,hsub,cW];rfl
 refine ae hld ?_;rw[jk cW iD rfl,i64_in (by omega) (by omega),aa];exact hQ
theorem iQ.use {n:Int}(hQ:Q (.bool (okN n)) G):al P iQ.n [.int .i64 n] G Q:=by
 refine iQ.sound ?_;unfold iQ.S;unfold okN at hQ;rw[fI,aa,aI];refine⟨fun h=>?_,fun h=>by rwa [dF_ h,Bool.false_and]at hQ⟩;rw[dT_ h,Bool.true_and]at hQ;rw[kQ,aa];exact hQ
theorem gS.use {n:Int}(h:okN n=true) (hQ:Q (.int .i64 ((pl n:Nat):Int)) G):al P gS.n [.int .i64 n] G Q:=by
 refine gS.sound ?_;unfold gS.S;obtain⟨h1,h2⟩:=yg h;have e48:(2:Nat) ^ 48=281474976710656:=by decide
 rw[b7,h1,i64_in (by omega) (by omega),aa];exact hQ
theorem iz.use {h:List UInt8}(hl:h.length=32) (hQ:∀ G',Ch [] G [] G'->Q (.agg ((sha h).map u8v)) G'):al P iz.n [.agg (h.map u8v)] G Q:=by
 refine iz.sound ?_;unfold iz.S;rw[mF];intro i1 f1;have s1:=(Sp.nil G).row f1 (.agg (h.map u8v));intro i3 f3;have s3:=s1.row f3 (.agg ((List.replicate 32 (0:UInt8)).map u8v));refine ae pk ?_;refine ae (km eC rfl cW rfl fS rfl (qR (au.own (i:=1) s3 rfl) hl)) ?_;refine Dg (T:=T) (ts:=iE) (e:=bH) (si:=kf) (ie:=iO) (l:=[h].map .str) m9 rfl fS rfl rfl rfl rfl (by simp[sz,iO]) (by decide) s3 fun v7 G8 s8=>?_;refine jh.use (xs:=[h]) (bm.own (i:=0) s8 rfl).cap (by simp) (by simp;omega) fun G10 c10=>?_;have s10:=s8.tmp c10;have e1:[h].flatten=h:=by simp
 rw[e1];refine fg (gA (hs':=sha h) (by simp) (gU _) (au.own (i:=1) s10 rfl)) ?_;have s11:=Sp.setRow (j:=1) s10 rfl (.agg ((sha h).map u8v));refine ae (bM (gU _) (au.own (i:=1) s11 rfl)) ?_;exact hQ _ s11.ch
theorem Ha {h:List UInt8}(hl:h.length=32) {b:Nat}(hb:b<48):h.set (b/8) ((h[b/8]'(by omega)) ^^^ UInt8.ofNat (2 ^ (b % 8)))=rB h b:=by
 unfold rB;rw[List.getD_eq_getElem?_getD,List.getElem?_eq_getElem (by omega)];rfl
theorem yq {h:List UInt8}(hl:h.length=32) (b:Nat):(rB h b).length=32:=by simp[rB,hl]
theorem j2.use {h:List UInt8}{p k:Nat}(hl:h.length=32) (hp:p<2 ^ 48) (hk:k≤48) (hQ:∀ G',Ch [] G [] G'->Q (.agg ((mj p k h).map u8v)) G'):al P j2.n [.agg (h.map u8v),.int .i64 (p:Int),.int .i64 (k:Int)] G Q:=by
 refine j2.sound ?_;unfold j2.S;rw[mF];intro i1 f1;have s1:=(Sp.nil G).row f1 (.agg (h.map u8v));intro i3 f3;have s3:=s1.row f3 (.agg ((List.replicate 32 (0:UInt8)).map u8v));intro R hR;have hD:=mB (pl:=p) k hl;have loop:∀ (r:Nat) (c:List UInt8) (G':ak),r≤k->c.length=32->mj p r c=mj p k h->Sp [] G [au i3 (.agg ((List.replicate 32 (0:UInt8)).map u8v)),au i1 (.agg (c.map u8v))] G'->R [.int .i64 (p:Int),.int .i64 (k:Int),.ptr i1 [] 0,.ptr i3 [] 0,.int .i64 (k:Int),.int .i64 ((k-r:Nat):Int)] G':=by
  intro r;induction r with
  | zero=>
   intro c G' hr hc hd s;have hcD:c=mj p k h:=hd;subst hcD;refine hR _ _ _ _ _ _ _ ?_;rw[aM,aa,dF_ (by omega),aK];refine ae (bM hD (au.own (i:=1) s rfl)) ?_;refine fg (gA (hs':=mj p k h) (by simp) hD (au.own (i:=0) s rfl)) ?_;have s':=Sp.setRow (j:=0) s rfl (.agg ((mj p k h).map u8v));refine ae (bM hD (au.own (i:=0) s' rfl)) ?_;exact hQ _ s'.ch
  | succ r ih=>
   intro c G' hr hc hd s;refine hR _ _ _ _ _ _ _ ?_;rw[aM,aa,dT_ (by omega),aN,b7,i64_in (by omega) (by omega),aa,b7,i64_in (by omega) (by omega),aa];have eb:(k:Int)-1-((k-(r+1):Nat):Int)=(r:Int):=(by omega);rw[eb];refine ae (Lz (by omega)) ?_;refine ae (ML _) ?_;have hnext:((k-(r+1):Nat):Int)+1=((k-r:Nat):Int):=(by omega);rw[bB,aa,aI];have hbit:p/2 ^ r % 2=oP p r:=rfl;refine⟨fun h1=>?_,fun h1=>?_⟩
   ·have hb1:oP p r=1:=(by rw[<- hbit];omega);have hstep:qz p r c=sha (rB c r):=(by unfold qz;rw[if_pos hb1]);refine ae (LD r 8 (by decide) (by omega) rfl) ?_;refine ae (nQ (j:=r/8) (by omega)) ?_;refine ae (pQ (hs:=c) (j:=r/8) (by omega) (au.own (i:=1) s rfl)) ?_;refine ae (LC r 8 (by decide) rfl) ?_;refine ae (Mh (by omega)) ?_;refine ae (u8_xor _ _) ?_;refine ae (nQ (j:=r/8) (by omega)) ?_;refine fg (u6 (hs:=c) (j:=r/8) (by omega) (au.own (i:=1) s rfl)) ?_;rw[Ha hc (by omega)];have s':=Sp.setRow (j:=1) s rfl (.agg ((rB c r).map u8v));have hfl:=yq hc r;refine ae (bM hfl (au.own (i:=1) s' rfl)) ?_;refine iz.use hfl fun G29 c29=>?_;have s29:=s'.tmp c29;refine fg (gA (hs':=sha (rB c r)) hfl (gU _) (au.own (i:=1) s29 rfl)) ?_;have s30:=Sp.setRow (j:=1) s29 rfl (.agg ((sha (rB c r)).map u8v));rw[bg,aa,i64_in (by omega) (by omega),hnext];refine ih _ _ (by omega) (gU _) ?_ s30;rw[<- hstep];exact hd
   ·have hb0:¬ oP p r=1:=(by rw[<- hbit];omega);have hstep:qz p r c=c:=(by unfold qz;rw[if_neg hb0]);rw[bg,aa,i64_in (by omega) (by omega),hnext];refine ih _ _ (by omega) hc ?_ s;have hd':mj p r (qz p r c)=mj p k h:=hd
    rwa [hstep]at hd'
 have:=loop k h _ (Nat.le_refl _) hl rfl s3
 rwa [Nat.sub_self]at this
theorem im.use {s:List UInt8}{n:Int}(hl:s.length=32) (hQ:∀ G',Ch [] G [] G'->Q (BB (jS s n)) G'):al P im.n [.agg (s.map u8v),.int .i64 n] G Q:=by
 refine im.sound ?_;unfold im.S;rw[mF];intro i1 f1;have s1:=(Sp.nil G).row f1 (.agg (s.map u8v));intro i3 f3;have s3:=s1.row f3 (.agg (mE.map u8v));refine iQ.use ?_;unfold jS at hQ;rw[dx,aa];cases hn:okN n with
 | false=>
  rw[hn]at hQ;rw[Bool.not_false,aN];refine ae rI ?_;refine fg (gA (hs':=mE) rfl rfl (au.own (i:=0) s3 rfl)) ?_;have s9:=Sp.setRow (j:=0) s3 rfl (.agg (mE.map u8v));refine ae (bM rfl (au.own (i:=0) s9 rfl)) ?_;exact hQ _ s9.ch
 | true=>
  rw[hn]at hQ;rw[Bool.not_true,aK];refine ae (bM hl (au.own (i:=1) s3 rfl)) ?_;refine gS.use hn ?_;refine⟨⟨bM hl (au.own (i:=1) s3 rfl),trivial⟩,?_⟩;refine j2.use (k:=48) hl (yg hn).2 (by omega) fun G15 c15=>?_;have s15:=s3.tmp c15;have hD:=mB (pl:=pl n) 48 hl;refine fg (gA (hs':=mj (pl n) 48 s) rfl hD (au.own (i:=0) s15 rfl)) ?_;have s16:=Sp.setRow (j:=0) s15 rfl (.agg ((mj (pl n) 48 s).map u8v));refine ae (bM hD (au.own (i:=0) s16 rfl)) ?_;exact hQ _ s16.ch
theorem jt.use {n:Int}(hT:Tab G) (hQ:Q (Gu (oc n)) G):al P jt.n [.int .i64 n] G Q:=by
 refine jt.sound ?_;unfold jt.S;refine iQ.use ?_;unfold oc at hQ;rw[dx,aa];cases hn:okN n with
 | false=>
  rw[hn]at hQ;exact hQ
 | true=>
  rw[hn]at hQ;rw[Bool.not_true,aK];obtain⟨h1,h2⟩:=yg hn;have e48:(2:Nat) ^ 48=281474976710656:=by decide
  refine gS.use hn ?_;rw[jk cu n5 rfl,u64_in (by omega) (by omega),aa];refine dH.use h2 hT ?_;have hle:=rq (pl n);have hmin:qy (.int .i64 48) (.int .i64 ((if pl n=0 then 64 else level (pl n):Nat):Int))=some (.int .i64 (level (pl n):Nat)):=by
   by_cases h0:pl n=0
   ·rw[h0];rfl
   ·rw[if_neg h0];simp only[qy];congr 2;split<;>omega
  refine ae hmin ?_;exact hQ
theorem ju.use {s:List UInt8}{a b:Int}(hT:Tab G) (hl:s.length=32) (hQ:∀ G',Ch [] G [] G'->Q (BB (kN s a b)) G'):al P ju.n [.agg (s.map u8v),.int .i64 a,.int .i64 b] G Q:=by
 refine ju.sound ?_;unfold ju.S;rw[mF];intro i1 f1;have s1:=(Sp.nil G).row f1 (.agg (s.map u8v));intro i3 f3;have s3:=s1.row f3 (.agg ((List.replicate 32 (0:UInt8)).map u8v));revert s3;generalize ak.upd _ i3 _=G4;intro s3;have s3:Sp [] G [au i3 (.agg (mE.map u8v)),au i1 (.agg (s.map u8v))] G4:=s3;refine jt.use (hT.mono s3.ro) ?_;refine ae (ii0 _) ?_;refine ae (ii1 _) ?_;intro J28;have none:∀ e:Int,kN s a b=(mE,e)->(wv (bj T ar []) fun v15=>wg (aF T G4 ar (.ptr i3 [] 0) v15) fun G16=>wv (ag T G16 ar (.ptr i3 [] 0)) fun v17=>Q (.tuple [v17,.int .i64 e]) G16):=by
  intro e he;refine ae rI ?_;refine fg (gA (hs':=mE) rfl rfl (au.own (i:=0) s3 rfl)) ?_;have s9:=Sp.setRow (j:=0) s3 rfl (.agg (mE.map u8v));refine ae (bM rfl (au.own (i:=0) s9 rfl)) ?_;have:=hQ _ s9.ch
  rwa [he]at this
 have bad:okN a=false\/okN b=false->J28 (.bool true) G4:=by
  intro h;simp -zeta only [J28,aN];refine none 90 ?_;unfold kN;rcases h with h|h<;>rw[h]<;>simp
 have lK:okN a=true->okN b=true->J28 (.bool false) G4:=by
  intro ha hb;simp -zeta only [J28,aK];have hlv:oc a=(((level (pl a):Nat):Int),0):=by unfold oc;rw[ha];rfl
  rw[hlv];have hle:=rq (pl a);refine gS.use ha ?_;refine ae (Lz (by omega)) ?_;refine gS.use hb ?_;refine ae (Lz (by omega)) ?_;rw[cD,aa,dC];refine⟨fun hne=>?_,fun heq=>?_⟩
  ·refine none 5 ?_;unfold kN;rw[ha,hb,if_neg (by omega)];rfl
  ·have hd:kN s a b=(mj (pl b) (level (pl a)) s,0):=by
    unfold kN;rw[ha,hb,if_pos (by omega)];rfl
   refine ae (bM hl (au.own (i:=1) s3 rfl)) ?_;refine gS.use hb ?_;refine⟨⟨bM hl (au.own (i:=1) s3 rfl),trivial⟩,?_⟩;refine j2.use hl (yg hb).2 hle fun G33 c33=>?_;have s33:=s3.tmp c33;have hD:=mB (pl:=pl b) (level (pl a)) hl;refine fg (gA (hs':=mj (pl b) (level (pl a)) s) rfl hD (au.own (i:=0) s33 rfl)) ?_;have s34:=Sp.setRow (j:=0) s33 rfl (.agg ((mj (pl b) (level (pl a)) s).map u8v));refine ae (bM hD (au.own (i:=0) s34 rfl)) ?_;have:=hQ _ s34.ch
   rwa [hd]at this
 cases ha:okN a with
 | false=>
  have hlv:oc a=(0,90):=by unfold oc;rw[ha];rfl
  have hb2:=bad (.inl ha);rw[hlv];rw[cD,aa,dF_ (by decide),Bool.not_false,aN];exact hb2
 | true=>
  have hlv:(oc a).2=0:=by unfold oc;rw[ha];rfl
  rw[hlv,nz0,aa,aK];refine iQ.use ?_;rw[dx,aa];cases hb:okN b with
  | false=>exact bad (.inr hb)
  | true=>exact lK ha hb
end
end Go.Esc.M
namespace Go.Esc.M
open Go Go.Esc
def plA (p:Nat):List ah:=(List.range 48).map fun i=>.int .i64 ((oP p i:Nat):Int)
theorem qa (p:Nat):(plA p).length=48:=by simp[plA]
theorem vT (p:Nat) {i:Nat}(hi:i<48):(plA p)[i]?=some (.int .i64 ((oP p i:Nat):Int)):=by
 rw[plA,List.getElem?_map,List.getElem?_range hi];rfl
theorem rO (p:Nat):uni 1 (plA p)=true:=by simp[plA,uni,sz]
theorem BT:∀ l:List Int,mz (l.map (ah.int .i64))=true
 | []=>rfl
 | b::l=>by simp[mz,okv,BT l]
theorem CX (p:Nat):okv (.agg (plA p))=true:=by
 have:plA p=((List.range 48).map fun i=>((oP p i:Nat):Int)).map (ah.int .i64):=by simp[plA]
 rw[this,okv];exact BT _
theorem qi (p:Nat):dD pn (.agg (plA p))=true:=by
 have h1:szs (plA p)=48:=by rw[gX (rO p),qa]
 simp[dD,sz,h1,pn,ah.isAgg,kZ.isAgg]
theorem Fe (p:Nat):sz (.agg (plA p))=48:=by rw[sz,gX (rO p),qa]
theorem AG {p:Nat}:∀ (i:Nat),(∀ j,j<i->oP p j=0)->2 ^ i ∣ p
 | 0,_=>by simp
 | i+1,h=>by
  obtain⟨c,hc⟩:=AG i fun j hj=>h j (by omega);have hi:=h i (by omega);unfold oP at hi;have e:p/2 ^ i=c:=Nat.div_eq_of_eq_mul_right (Nat.pow_pos (by decide)) hc;rw[e]at hi;refine⟨c/2,?_⟩;rw[Nat.pow_succ,Nat.mul_assoc,show 2*(c/2)=c by omega];exact hc
theorem HP {p i:Nat}(hi:i<48) (hz:∀ j,j<i->oP p j=0) (h1:oP p i=1):level p=i:=by
 obtain⟨c,hc⟩:=AG i hz;unfold oP at h1;have e:p/2 ^ i=c:=Nat.div_eq_of_eq_mul_right (Nat.pow_pos (by decide)) hc;rw[e]at h1;refine Jo (m:=c/2) hi ?_;rw[show 2*(c/2)+1=c by omega];exact hc
theorem HQ {p:Nat}(hp:p<2 ^ 48) (hz:∀ j,j<48->oP p j=0):level p=48:=by
 have:=Nat.eq_zero_of_dvd_of_lt (AG 48 hz) hp;rw[this,FB]
theorem EH (p i:Nat):p.testBit i=decide (oP p i=1):=by rw[Nat.testBit_eq_decide_div_mod_eq];rfl
theorem JI {a b n:Nat}(ha:a<2 ^ 48) (hb:b<2 ^ 48) (h:∀ i,n≤i->i<48->oP a i=oP b i):a/2 ^ n=b/2 ^ n:=by
 apply Nat.eq_of_testBit_eq;intro j;rw[Nat.testBit_div_two_pow,Nat.testBit_div_two_pow];by_cases hj:j+n<48
 ·rw[EH,EH,h (j+n) (by omega) hj]
 ·have h48:(2:Nat) ^ 48≤2 ^ (j+n):=Nat.pow_le_pow_right (by decide) (by omega);rw[Nat.testBit_lt_two_pow (by omega),Nat.testBit_lt_two_pow (by omega)]
theorem JS {a b n i:Nat}(h:a/2 ^ n=b/2 ^ n) (hi:n≤i):oP a i=oP b i:=by
 obtain⟨j,rfl⟩:∃ j,i=n+j:=⟨i-n,by omega⟩;rw[Hj,Hj,h]
theorem LR (p i:Nat):oP p i=0\/oP p i=1:=by unfold oP;omega
section
variable {F0:List AId}{G0 G:ak}{ps:List LP}{Q:ah->ak->Prop}
theorem dt.use {n:Int}(hQ:Q (.bool (okN n)) G):al P dt.n [.int .i64 n] G Q:=by
 refine dt.sound ?_;unfold dt.S;unfold okN at hQ;rw[fI,aa,aI];refine⟨fun h=>?_,fun h=>by rwa [dF_ h,Bool.false_and]at hQ⟩;rw[dT_ h,Bool.true_and]at hQ;rw[kQ,aa];exact hQ
theorem cZ.use {n:Int}(hn:okN n=true) (hQ:∀ G',Ch [] G [] G'->Q (.agg (plA (pl n))) G'):al P cZ.n [.int .i64 n] G Q:=by
 refine cZ.sound ?_;unfold cZ.S;obtain⟨hp1,hp2⟩:=yg hn;obtain⟨p,hp⟩:∃ p,p=pl n:=⟨_,rfl⟩;rw[<- hp]at hp1 hp2 hQ;obtain⟨Z,hZ⟩:∃ Z,Z=List.replicate 48 (ah.int .i64 0):=⟨_,rfl⟩;have hz:oY=.agg Z:=by rw[hZ];rfl
 have hZl:Z.length=48:=by rw[hZ];simp
 have hDZ:(plA p).length=Z.length:=by rw[qa,hZl]
 have huZ:uni 1 Z=true:=by rw[hZ];exact nq rfl
 rw[hz];intro i1 f1;have s1:=(Sp.nil G).row f1 (.agg Z);intro i3 f3;have s3:=s1.row f3 (.agg Z);rw[b7,hp1,aa];have e48:(2:Nat) ^ 48=281474976710656:=by decide
 rw[i64_in (by omega) (by omega)];have hum:∀ j,uni 1 (mix (plA p) Z j)=true:=fun j=>mH (j0 (rO p) _) (pY huZ _);intro R hR;have loop:∀ (m j:Nat) (G':ak),48-j=m->j≤48->Sp [] G [au i3 (.agg (mix (plA p) Z j)),au i1 (.agg Z)] G'->R [.ptr i1 [] 0,.ptr i3 [] 0,.int .i64 ((p/2 ^ j:Nat):Int),.int .i64 (j:Int)] G':=by
  intro m;induction m with
  | zero=>
   intro j G' hm hj s;have h48:j=Z.length:=(by omega);rw[h48,Ei hDZ]at s;refine hR _ _ _ _ _ ?_;rw[aM,aa,dF_ (by omega),aK];refine ae (cj ll (au.own (i:=0) s rfl) (qi p)) ?_;refine fg (ig ll (au.own (i:=1) s rfl) (qi p) (by rw[Fe,sz,gX huZ,hZl]) (CX p)) ?_;have s':=Sp.setRow (j:=1) s rfl (.agg (plA p));refine ae (cj ll (au.own (i:=1) s' rfl) (qi p)) ?_;exact hQ _ s'.ch
  | succ m ih=>
   intro j G' hm hj s;have hjZ:j<Z.length:=(by omega);have hle:p/2 ^ j≤p:=Nat.div_le_self _ _;refine hR _ _ _ _ _ ?_;rw[aM,aa,dT_ (by omega),aN];refine ae (LC (p/2 ^ j) 2 (by decide) rfl) ?_;refine ae (pT (j:=j) ll rfl iD rfl (by omega)) ?_;have hold:(mix (plA p) Z j)[j]?=some (.int .i64 0):=by
    rw[GN hDZ hjZ];congr 1;simp only[hZ,List.getElem_replicate]
   refine fg (JW (s:=1) (c:=.int .i64 ((p/2 ^ j % 2:Nat):Int)) iD (au.own (i:=0) s rfl) (hum j) hold rfl rfl rfl) ?_;have hset:(mix (plA p) Z j).set j (.int .i64 ((p/2 ^ j % 2:Nat):Int))=mix (plA p) Z (j+1):=by
    have:=GM hDZ hjZ;have e:(plA p)[j]'(by rw[qa];omega)=.int .i64 ((p/2 ^ j % 2:Nat):Int):=by
     have:=vT p (i:=j) (by omega);rw[List.getElem?_eq_getElem (by rw[qa];omega)]at this;injection this
    rwa [e]at this
   rw[hset];have s':=Sp.setRow (j:=0) s rfl (.agg (mix (plA p) Z (j+1)));have hq:az T .quo aq (.int .i64 ((p/2 ^ j:Nat):Int)) (.int .i64 2)=some (.int .i64 ((p/2 ^ (j+1):Nat):Int)):=by
    rw[zw _ _ _ _ _ (by decide)];have h2:(((p/2 ^ j:Nat):Int).tdiv 2)=((p/2 ^ j/2:Nat):Int):=zG _ 2;have h3:p/2 ^ (j+1)=p/2 ^ j/2:=(by rw[Nat.pow_succ,Nat.div_div_eq_div_mul]);obtain⟨q,hq⟩:∃ q,q=p/2 ^ j:=⟨_,rfl⟩;rw[h2,h3];rw[<- hq]at hle ⊢;rw[i64_in (by omega) (by omega)]
   refine ae hq ?_;rw[bg,aa,i64_in (by omega) (by omega)];exact ih (j+1) _ (by omega) (by omega) s'
 have:=loop 48 0 _ rfl (by omega) (by rw[Eh];exact s3);simpa using this
theorem en.use {p:Nat}(hp:p<2 ^ 48) (hQ:∀ G',Ch [] G [] G'->Q (.int .i64 ((level p:Nat):Int)) G'):al P en.n [.agg (plA p)] G Q:=by
 refine en.sound ?_;unfold en.S;intro i1 f1;have s1:=(Sp.nil G).row f1 (.agg (plA p));intro R hR;have loop:∀ (m j:Nat),48-j=m->j≤48->(∀ q,q<j->oP p q=0)->R [.ptr i1 [] 0,.int .i64 (j:Int)] (G.upd i1 (.own (.agg (plA p)))):=by
  intro m;induction m with
  | zero=>
   intro j hm hj hz;have h48:j=48:=(by omega);subst h48;refine hR _ _ _ ?_;rw[aM,aa,dF_ (by omega),aK];have:=hQ _ s1.ch
   rwa [HQ hp hz]at this
  | succ m ih=>
   intro j hm hj hz;refine hR _ _ _ ?_;rw[aM,aa,dT_ (by omega),aN];refine ae (pT (j:=j) ll rfl iD rfl (by omega)) ?_;refine ae (wH (s:=1) iD (au.own (i:=0) s1 rfl) (rO p) (vT p (by omega)) rfl) ?_;rw[bB,aa,aI];refine⟨fun h1=>?_,fun h1=>?_⟩
   ·have:=hQ _ s1.ch
    rwa [HP (by omega) hz (by omega)]at this
   ·rw[bg,aa,i64_in (by omega) (by omega)];refine ih (j+1) (by omega) (by omega) fun q hq=>?_;by_cases hqj:q=j
    ·subst hqj;rcases LR p q with h|h
     ·exact h
     ·omega
    ·exact hz q (by omega)
 exact loop 48 0 rfl (by omega) (fun q hq=>by omega)
theorem cA.use {h:List UInt8}(hl:h.length=32) (hQ:∀ G',Ch [] G [] G'->Q (.agg ((sha h).map u8v)) G'):al P cA.n [.agg (h.map u8v)] G Q:=by
 refine cA.sound ?_;unfold cA.S;rw[mF];intro i1 f1;have s1:=(Sp.nil G).row f1 (.agg (h.map u8v));intro i3 f3;have s3:=s1.row f3 (.agg ((List.replicate 32 (0:UInt8)).map u8v));refine ae pk ?_;refine ae (km eC rfl cW rfl fS rfl (qR (au.own (i:=1) s3 rfl) hl)) ?_;refine Dg (T:=T) (ts:=iE) (e:=bH) (si:=kf) (ie:=iO) (l:=[h].map .str) m9 rfl fS rfl rfl rfl rfl (by simp[sz,iO]) (by decide) s3 fun v7 G8 s8=>?_;refine fO.use (xs:=[h]) (bm.own (i:=0) s8 rfl).is (by simp) (by simp;omega) fun G10 c10=>?_;have s10:=s8.tmp c10;have e1:[h].flatten=h:=by simp
 rw[e1];refine fg (gA (hs':=sha h) (by simp) (gU _) (au.own (i:=1) s10 rfl)) ?_;have s11:=Sp.setRow (j:=1) s10 rfl (.agg ((sha h).map u8v));refine ae (bM (gU _) (au.own (i:=1) s11 rfl)) ?_;exact hQ _ s11.ch
theorem fe.use {h:List UInt8}{p k:Nat}(hl:h.length=32) (hk:k≤48) (hQ:∀ G',Ch [] G [] G'->Q (.agg ((mj p k h).map u8v)) G'):al P fe.n [.agg (h.map u8v),.agg (plA p),.int .i64 (k:Int)] G Q:=by
 refine fe.sound ?_;unfold fe.S;rw[mF];intro i1 f1;have s1:=(Sp.nil G).row f1 (.agg (h.map u8v));intro i3 f3;have s3:=s1.row f3 (.agg (plA p));intro i5 f5;have s5:=s3.row f5 (.agg ((List.replicate 32 (0:UInt8)).map u8v));rw[b7,i64_in (by omega) (by omega),aa];intro R hR;have hD:=mB (pl:=p) k hl;have loop:∀ (r:Nat) (c:List UInt8) (G':ak),r≤k->c.length=32->mj p r c=mj p k h->Sp [] G [au i5 (.agg ((List.replicate 32 (0:UInt8)).map u8v)),au i3 (.agg (plA p)),au i1 (.agg (c.map u8v))] G'->R [.ptr i1 [] 0,.ptr i3 [] 0,.ptr i5 [] 0,.int .i64 ((r:Int)-1)] G':=by
  intro r;induction r with
  | zero=>
   intro c G' hr hc hd s;have hcD:c=mj p k h:=hd;subst hcD;refine hR _ _ _ _ _ ?_;rw[fI,aa,dF_ (by omega),aK];refine ae (bM hD (au.own (i:=2) s rfl)) ?_;refine fg (gA (hs':=mj p k h) (by simp) hD (au.own (i:=0) s rfl)) ?_;have s':=Sp.setRow (j:=0) s rfl (.agg ((mj p k h).map u8v));refine ae (bM hD (au.own (i:=0) s' rfl)) ?_;exact hQ _ s'.ch
  | succ r ih=>
   intro c G' hr hc hd s;refine hR _ _ _ _ _ ?_;have er:((r+1:Nat):Int)-1=(r:Int):=(by omega);rw[er,fI,aa,dT_ (by omega),aN];refine ae (pT (j:=r) ll rfl iD rfl (by omega)) ?_;refine ae (wH (s:=1) iD (au.own (i:=1) s rfl) (rO p) (vT p (by omega)) rfl) ?_;rw[bB,aa,aI];refine⟨fun h1=>?_,fun h1=>?_⟩
   ·have hb1:oP p r=1:=(by omega);have hstep:qz p r c=sha (rB c r):=(by unfold qz;rw[if_pos hb1]);refine ae (LD r 8 (by decide) (by omega) rfl) ?_;refine ae (LD r 8 (by decide) (by omega) rfl) ?_;refine ae (nQ (j:=r/8) (by omega)) ?_;refine ae (pQ (hs:=c) (j:=r/8) (by omega) (au.own (i:=2) s rfl)) ?_;refine ae (LC r 8 (by decide) rfl) ?_;refine ae (v:=.int .u64 ((r % 8:Nat):Int)) (by rw[jk iD Dk rfl,u64_in (by omega) (by omega)]) ?_;refine ae (Mh (by omega)) ?_;refine ae (u8_xor _ _) ?_;refine ae (nQ (j:=r/8) (by omega)) ?_;refine fg (u6 (hs:=c) (j:=r/8) (by omega) (au.own (i:=2) s rfl)) ?_;rw[Ha hc (by omega)];have s':=Sp.setRow (j:=2) s rfl (.agg ((rB c r).map u8v));have hfl:=yq hc r;refine ae (bM hfl (au.own (i:=2) s' rfl)) ?_;refine cA.use hfl fun G29 c29=>?_;have s29:=s'.tmp c29;refine fg (gA (hs':=sha (rB c r)) hfl (gU _) (au.own (i:=2) s29 rfl)) ?_;have s30:=Sp.setRow (j:=2) s29 rfl (.agg ((sha (rB c r)).map u8v));rw[b7,aa,i64_in (by omega) (by omega)];refine ih _ _ (by omega) (gU _) ?_ s30;rw[<- hstep];exact hd
   ·have hb0:¬ oP p r=1:=(by omega);have hstep:qz p r c=c:=(by unfold qz;rw[if_neg hb0]);rw[b7,aa,i64_in (by omega) (by omega)];refine ih _ _ (by omega) hc ?_ s;have hd':mj p r (qz p r c)=mj p k h:=hd
    rwa [hstep]at hd'
 exact loop k h _ (Nat.le_refl _) hl rfl s5
theorem cI.use {s:List UInt8}{n:Int}(hl:s.length=32) (hQ:∀ G',Ch [] G [] G'->Q (BB (jS s n)) G'):al P cI.n [.agg (s.map u8v),.int .i64 n] G Q:=by
 refine cI.sound ?_;unfold cI.S;rw[mF];intro i1 f1;have s1:=(Sp.nil G).row f1 (.agg (s.map u8v));intro i3 f3;have s3:=s1.row f3 (.agg (mE.map u8v));refine dt.use ?_;unfold jS at hQ;rw[dx,aa];cases hn:okN n with
 | false=>
  rw[hn]at hQ;rw[Bool.not_false,aN];refine ae rI ?_;refine fg (gA (hs':=mE) rfl rfl (au.own (i:=0) s3 rfl)) ?_;have s9:=Sp.setRow (j:=0) s3 rfl (.agg (mE.map u8v));refine ae (bM rfl (au.own (i:=0) s9 rfl)) ?_;exact hQ _ s9.ch
 | true=>
  rw[hn]at hQ;rw[Bool.not_true,aK];refine ae (bM hl (au.own (i:=1) s3 rfl)) ?_;refine cZ.use hn fun G13 c13=>?_;have s13:=s3.tmp c13;refine⟨⟨bM hl (au.own (i:=1) s13 rfl),trivial⟩,?_⟩;refine fe.use (k:=48) hl (by omega) fun G15 c15=>?_;have s15:=s13.tmp c15;have hD:=mB (pl:=pl n) 48 hl;refine fg (gA (hs':=mj (pl n) 48 s) rfl hD (au.own (i:=0) s15 rfl)) ?_;have s16:=Sp.setRow (j:=0) s15 rfl (.agg ((mj (pl n) 48 s).map u8v));refine ae (bM hD (au.own (i:=0) s16 rfl)) ?_;exact hQ _ s16.ch
theorem fu.use {n:Int}(hQ:∀ G',Ch [] G [] G'->Q (Gu (oc n)) G'):al P fu.n [.int .i64 n] G Q:=by
 refine fu.sound ?_;unfold fu.S;refine dt.use ?_;unfold oc at hQ;rw[dx,aa];cases hn:okN n with
 | false=>
  rw[hn]at hQ;exact hQ _ (Ch.refl _ _)
 | true=>
  rw[hn]at hQ;rw[Bool.not_true,aK];refine cZ.use hn fun G5 c5=>?_;refine en.use (yg hn).2 fun G7 c7=>?_;exact hQ _ (((Sp.nil G).tmp c5).tmp c7).ch
theorem eM.use {s:List UInt8}{a b:Int}(hl:s.length=32) (hQ:∀ G',Ch [] G [] G'->Q (BB (kN s a b)) G'):al P eM.n [.agg (s.map u8v),.int .i64 a,.int .i64 b] G Q:=by
 refine eM.sound ?_;unfold eM.S;rw[mF];intro i1 f1;have s1:=(Sp.nil G).row f1 (.agg (s.map u8v));intro i3 f3;have s3:=s1.row f3 (.agg ((List.replicate 32 (0:UInt8)).map u8v));revert s3;generalize ak.upd _ i3 _=G4;intro s3;have s3:Sp [] G [au i3 (.agg (mE.map u8v)),au i1 (.agg (s.map u8v))] G4:=s3;intro J53;have none:∀ (e:Int) {ps:List LP}{q:Nat}{G':ak},Sp [] G ps G'->ps[q]?=some (au i3 (.agg (mE.map u8v)))->kN s a b=(mE,e)->(wv (bj T ar []) fun v15=>wg (aF T G' ar (.ptr i3 [] 0) v15) fun G16=>wv (ag T G16 ar (.ptr i3 [] 0)) fun v17=>Q (.tuple [v17,.int .i64 e]) G16):=by
  intro e ps q G' s9 hq he;refine ae rI ?_;refine fg (gA (hs':=mE) rfl rfl (au.own s9 hq)) ?_;have s10:=Sp.setRow s9 hq (.agg (mE.map u8v));refine ae (bM rfl (ak.dR _ _ _)) ?_;have:=hQ _ s10.ch
  rwa [he]at this
 have bad:okN a=false\/okN b=false->J53 (.bool true) G4:=by
  intro h;simp -zeta only [J53,aN];refine none 90 (q:=0) s3 rfl ?_;unfold kN;rcases h with h|h<;>rw[h]<;>simp
 have lK:okN a=true->okN b=true->J53 (.bool false) G4:=by
  intro ha hb;simp -zeta only [J53,aK];have hle:=rq (pl a);have hpa:=(yg ha).2;have hpb:=(yg hb).2;refine cZ.use ha fun G17 c17=>?_;have s17:=s3.tmp c17;refine jL s17 ll (qi _) (by rw[Fe];rfl) (CX _) fun i18 G20 s20=>?_;refine cZ.use hb fun G22 c22=>?_;have s22:=s20.tmp c22;refine jL s22 ll (qi _) (by rw[Fe];rfl) (CX _) fun i23 G25 s25=>?_;have s25:Sp [] G [au i23 (.agg (plA (pl b))),au i18 (.agg (plA (pl a))),au i3 (.agg (mE.map u8v)),au i1 (.agg (s.map u8v))] G25:=s25;refine ae (cj ll (au.own (i:=1) s25 rfl) (qi _)) ?_;refine en.use hpa fun G28 c28=>?_;have s28:=s25.tmp c28;intro R hR;have loop:∀ (m j:Nat),48-j=m->j≤48->level (pl a)≤j->(∀ q,level (pl a)≤q->q<j->oP (pl a) q=oP (pl b) q)->R [.ptr i1 [] 0,.ptr i3 [] 0,.ptr i18 [] 0,.ptr i23 [] 0,.int .i64 ((level (pl a):Nat):Int),.int .i64 (j:Int)] G28:=by
   intro m;induction m with
   | zero=>
    intro j hm hj hlj hz;have hd:kN s a b=(mj (pl b) (level (pl a)) s,0):=by
     unfold kN;rw[ha,hb,if_pos (JI hpa hpb fun i h1 h2=>hz i h1 (by omega))];rfl
    refine hR _ _ _ _ _ _ _ ?_;rw[aM,aa,dF_ (by omega),aK];refine ae (bM hl (au.own (i:=3) s28 rfl)) ?_;refine ae (cj ll (au.own (i:=0) s28 rfl) (qi _)) ?_;refine fe.use hl hle fun G50 c50=>?_;have s50:=s28.tmp c50;have hD:=mB (pl:=pl b) (level (pl a)) hl;refine fg (gA (hs':=mj (pl b) (level (pl a)) s) rfl hD (au.own (i:=2) s50 rfl)) ?_;have s51:=Sp.setRow (j:=2) s50 rfl (.agg ((mj (pl b) (level (pl a)) s).map u8v));refine ae (bM hD (au.own (i:=2) s51 rfl)) ?_;have:=hQ _ s51.ch
    rwa [hd]at this
   | succ m ih=>
    intro j hm hj hlj hz;refine hR _ _ _ _ _ _ _ ?_;rw[aM,aa,dT_ (by omega),aN];refine ae (pT (j:=j) ll rfl iD rfl (by omega)) ?_;refine ae (wH (s:=1) iD (au.own (i:=1) s28 rfl) (rO _) (vT _ (by omega)) rfl) ?_;refine ae (pT (j:=j) ll rfl iD rfl (by omega)) ?_;refine ae (wH (s:=1) iD (au.own (i:=0) s28 rfl) (rO _) (vT _ (by omega)) rfl) ?_;rw[cD,aa,dC];refine⟨fun hne=>?_,fun heq=>?_⟩
    ·refine none 5 (q:=2) s28 rfl ?_;unfold kN;rw[ha,hb,if_neg (fun h=>hne (by rw[JS h hlj]))];rfl
    ·rw[bg,aa,i64_in (by omega) (by omega)];refine ih (j+1) (by omega) (by omega) (by omega) fun q h1 h2=>?_;by_cases hqj:q=j
     ·subst hqj;omega
     ·exact hz q h1 (by omega)
  exact loop (48-level (pl a)) (level (pl a)) rfl hle (Nat.le_refl _) (fun q h1 h2=>by omega)
 refine dt.use ?_;rw[dx,aa];cases ha:okN a with
 | false=>
  rw[Bool.not_false,aN];exact bad (.inl ha)
 | true=>
  rw[Bool.not_true,aK];refine dt.use ?_;rw[dx,aa];cases hb:okN b with
  | false=>exact bad (.inr hb)
  | true=>exact lK ha hb
end
end Go.Esc.M
namespace Go.Esc.M
open Go Go.Esc
end Go.Esc.M
