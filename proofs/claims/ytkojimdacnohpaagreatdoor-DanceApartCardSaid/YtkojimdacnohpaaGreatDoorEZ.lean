import Derived.Test.YtkojimdacnohpaaGreatDoorEY
set_option linter.unusedSimpArgs false
set_option linter.unusedVariables false
namespace Go.Esc
open Go Go.RowKit
structure Ch (F:List AId) (G:ak) (F':List AId) (G':ak):Prop where
 ro:pa G G'
 others:∀ j o,G j=some o->j ∉ F->G' j=some o
 row:∀ j∈F',j∈F\/G j=none
theorem Ch.refl (F:List AId) (G:ak):Ch F G F G:=⟨pa.refl _,fun _ _ h _=>h,fun _ h=>.inl h⟩
theorem Ch.trans {F F' F'':List AId}{G G' G'':ak}(h:Ch F G F' G') (k:Ch F' G' F'' G''):Ch F G F'' G'':=by
 refine⟨h.ro.trans k.ro,fun j o hj hn=>k.others j o (h.others j o hj hn) fun hm=>?_,fun j hj=>?_⟩
 ·rcases h.row j hm with h' | h'
  ·exact hn h'
  ·rw[hj]at h';cases h'
 ·rcases k.row j hj with h' | h'
  ·exact h.row j h'
  ·by_cases hm:j∈F
   ·exact .inl hm
   ·refine .inr ?_;cases hg:G j with
    | none=>rfl
    | some o=>rw[h.others j o hg hm]at h';cases h'
theorem Ch.apart {F F' E:List AId}{G G':ak}(h:Ch F G F' G') (hE:∀ j∈E,(G j).isSome=true) (hd:∀ j∈E,j ∉ F):∀ j∈E,j ∉ F':=fun j hj hm=>by
 rcases h.row j hm with h' | h'
 ·exact hd j hj h'
 ·have:=hE j hj;rw[h']at this;cases this
theorem Ch.same {F F' E:List AId}{G G':ak}(h:Ch F G F' G') (hE:∀ j∈E,(G j).isSome=true) (hd:∀ j∈E,j ∉ F):∀ j∈E,G' j=G j:=fun j hj=>by
 have:=hE j hj;cases hg:G j with
 | none=>rw[hg]at this;cases this
 | some o=>exact h.others j o hg (hd j hj)
theorem Ch.more {F F' E:List AId}{G G':ak}(h:Ch F G F' G'):Ch (F++E) G (F'++E) G':=
 ⟨h.ro,fun j o hj hn=>h.others j o hj fun hm=>hn (by simp[hm]),fun j hj=>by
  rcases List.mem_append.1 hj with hj | hj
  ·exact (h.row j hj).imp (fun h=>by simp[h]) id
  ·exact .inl (by simp[hj])⟩
theorem Ch.sub {F F' E E':List AId}{G G':ak}(h:Ch F G F' G') (hF:∀ j∈F,j∈E) (hE:∀ j∈E',j∈F'\/j∈E):Ch E G E' G':=
 ⟨h.ro,fun j o hj hn=>h.others j o hj fun hm=>hn (hF j hm),fun j hj=>by
  rcases hE j hj with hj | hj
  ·exact (h.row j hj).imp (hF j) id
  ·exact .inl hj⟩
theorem Ch.drop {F F':List AId}{G G':ak}(h:Ch F G F' G'):Ch F G [] G':=⟨h.ro,h.others,fun j hj=>by simp at hj⟩
theorem Ch.less {F F':List AId}{G G':ak}(h:Ch F G F' G'):Ch F G F G':=⟨h.ro,h.others,fun j hj=>.inl hj⟩
theorem Ch.grow {F:List AId}{G G':ak}(h:Ch [] G [] G'):Ch F G F G':=by simpa using h.more (E:=F)
theorem Ch.new {G:ak}{id:AId}{o:n6}(hf:lE G id):Ch [] G [id] (G.upd id o):=
 ⟨pa.of_le (hf.le _),fun j x hj _=>hf.le _ _ _ hj,fun j hj=>by simp at hj;subst hj;exact .inr hf.none⟩
theorem Ch.le {G G':ak}(hle:G.le G'):Ch [] G [] G':=⟨pa.of_le hle,fun j o h _=>hle j o h,fun j hj=>by simp at hj⟩
section
variable {T:Tbl}
theorem dI {G:ak}{id:AId}{ob:n6}{cs:List ah}{f o:Nat}{c:ah}{t:TypeId}{i:TI}(hg:G id=some ob) (ho:mQ ob=some (.agg cs)) (hs:szs (cs.take f)=o) (hc:cs[f]?=some c)
  (ht:T t=some i) (hf:dD i c=true):ag T G t (.ptr id [f] o)=some c:=by
 simp[ag,nI,hg,ho,sub,hs,hc,ht,hf]
theorem mG {G:ak}{id:AId}{cs:List ah}{f o:Nat}{c u:ah}{t:TypeId}{i:TI}(hg:G id=some (.own (.agg cs))) (hs:szs (cs.take f)=o) (hc:cs[f]?=some u)
  (ht:T t=some i) (hf:dD i c=true) (hsz:sz u=sz c) (hok:okv c=true):aF T G t (.ptr id [f] o) c=some (G.upd id (.own (.agg (cs.set f c)))):=by
 simp[aF,hg,sub,hs,hc,ht,hf,hsz,hok,putAt]
end
theorem Own.leaf {n:Nat}{G:ak}{v:ah}{vs:List ah}(h:Own n G v vs):sz v=1/\v.isAgg=false/\okv v=true:=by
 rcases h with ⟨rfl,_⟩ | ⟨_,_,_,_,rfl,_⟩<;>exact⟨rfl,rfl,rfl⟩
theorem rL (n:Int):IntKind.u64.wrap n=n % 18446744073709551616:=by simp[IntKind.wrap,IntKind.bits,IntKind.signed]
theorem tL (n:Int):IntKind.u32.wrap n=n % 4294967296:=by simp[IntKind.wrap,IntKind.bits,IntKind.signed]
theorem zn (n:Int):IntKind.u8.wrap n=n % 256:=by simp[IntKind.wrap,IntKind.bits,IntKind.signed]
def u8v (b:UInt8):ah:=.int .u8 b.toNat
theorem kd (l:List UInt8):uni 1 (l.map u8v)=true:=by simp[uni,u8v,sz]
theorem kM:∀ l:List UInt8,mz (l.map u8v)=true
 | []=>rfl
 | b :: l=>by simp[mz,okv,u8v,kM l]
theorem vx:∀ l:List UInt8,bytesOf (l.map u8v)=some l
 | []=>rfl
 | b :: l=>by simp[bytesOf,u8v,vx l]
theorem nr (m:Nat):u8v (UInt8.ofNat m)=.int .u8 ((m % 256:Nat):Int):=by simp[u8v]
def WrP (id:AId) (bs:List UInt8) (f:Int) (G:ak) (F:List AId):Prop:=
 ∃ s,G id=some (.own (.agg [s,.int .i64 f]))/\Own 1 G s (bs.map u8v)/\rowOf s≠some id/\F=id :: (rowOf s).toList
theorem WrP.rows {id:AId}{bs:List UInt8}{f:Int}{G:ak}{F:List AId}(h:WrP id bs f G F):∀ j∈F,(G j).isSome=true:=by
 obtain⟨s,hg,ho,hne,rfl⟩:=h;intro j hj;rcases List.mem_cons.1 hj with rfl | hj
 ·rw[hg];rfl
 ·rcases ho with ⟨rfl,_⟩ | ⟨i,_,_,_,rfl,hi,_⟩
  ·simp[rowOf]at hj
  ·simp[rowOf]at hj;subst hj;rw[hi];rfl
theorem WrP.frame {id:AId}{bs:List UInt8}{f:Int}{G G':ak}{F:List AId}(h:WrP id bs f G F) (hs:∀ j∈F,G' j=G j):WrP id bs f G' F:=by
 obtain⟨s,hg,ho,hne,rfl⟩:=h;refine⟨s,by rw[hs id (by simp)];exact hg,?_,hne,rfl⟩;rcases ho with h | ⟨i,len,cap,cs,rfl,hi,h⟩
 ·exact .inl h
 ·exact .inr ⟨i,len,cap,cs,rfl,by rw[hs i (by simp[rowOf])];exact hi,h⟩
section
variable {T:Tbl}{tb:TypeId}{ib:TI} (htb:T tb=some ib) (hdb:ib.desc=.slice tb\/ib.desc.isAgg=false) (hzb:ib.size=1)
include htb hdb hzb in
theorem WrP.put {id:AId}{s v:ah}{f:Int}{G G9:ak}{bs':List UInt8}(hg:G id=some (.own (.agg [s,.int .i64 f]))) (hne:rowOf s≠some id) (hsz:sz s=1) (ho:Own 1 G9 v (bs'.map u8v)) (hk:Kept s G v G9) :
  ∃ G',aF T G9 tb (.ptr id [0] 0) v=some G'/\WrP id bs' f G' (id :: (rowOf v).toList)/\Ch (id :: (rowOf s).toList) G (id :: (rowOf v).toList) G':=by
 have hg9:G9 id=some (.own (.agg [s,.int .i64 f])):=hk.others _ _ hg hne;have hnv:rowOf v≠some id:=fun e=>by
  rcases hk.row id e with h | h
  ·exact hne h
  ·rw[hg]at h;cases h
 have hagg:ib.desc.isAgg=false:=by
  rcases hdb with h | h
  ·rw[h];rfl
  ·exact h
 refine⟨_,mG (c:=v) hg9 rfl rfl htb (by simp[dD,ho.leaf.1,ho.leaf.2.1,hzb,hagg]) (by rw[hsz,ho.leaf.1]) ho.leaf.2.2,⟨v,ak.dR _ _ _,ho.upd hnv,hnv,rfl⟩,?_⟩;refine⟨hk.ro.trans (tq hg9 (by simp)),fun j o hj hn=>?_,fun j hj=>?_⟩
 ·rw[ak.nb _ _ (fun e=>hn (by simp[e]))];exact hk.others _ _ hj fun e=>hn (by simp[e])
 ·rcases List.mem_cons.1 hj with rfl | hj
  ·exact .inl (by simp)
  ·rcases hk.row j (by simpa using hj) with h | h
   ·exact .inl (by simp[h])
   ·exact .inr h
end
end Go.Esc
