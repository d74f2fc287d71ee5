import Derived.Test.YtkojimdacnohpaaGreatDoorLSf
set_option maxHeartbeats 2000000
set_option linter.unusedSimpArgs false
set_option linter.unusedVariables false
set_option maxRecDepth 20000
namespace Go.Esc.M
open Go Go.Esc
theorem ahL {s:List UInt8}{a b:Int}(ha:okN a=true) (hb:okN b=true) (h:pl a/2 ^ level (pl a)=pl b/2 ^ level (pl a)):kN s a b=(mj (pl b) (level (pl a)) s,0):=by
 unfold kN;rw[ha,hb,if_pos h];rfl
theorem El {a:Int}(ha:okN a=true):oc a=(((level (pl a):Nat):Int),0):=by
 unfold oc;rw[ha];rfl
section
variable {F0:List AId}{G0 G:ak}{ps:List LP}{Q:ah->ak->Prop}
end
end Go.Esc.M
namespace Go.Esc
open Go Go.RowKit
section
variable {T:Tbl}{t e:TypeId}{i ie:TI} (ht:T t=some i) (hd:i.desc=.slice e) (he:T e=some ie)
end
end Go.Esc
namespace Go.Esc.M
open Go Go.Esc
structure b6 where
 index:Int
 secret:List UInt8
 full:Bool
 deriving DecidableEq
def b6.cs (s:b6):List ah:=[.int .i64 s.index,.agg (s.secret.map u8v),.bool s.full]
def b6.av (s:b6):ah:=.agg s.cs
def b6.ok (s:b6):Prop:=s.secret.length=32
def oF:b6:=⟨0,mE,false⟩
theorem oE:oF.ok:=rfl
theorem KZ:pW=oF.av:=rfl
theorem b6.sz {s:b6}(h:s.ok):Esc.sz s.av=34:=by
 have h1:szs (s.secret.map u8v)=32:=by rw[gX (n:=1) (kd _)];simp[show s.secret.length=32 from h]
 simp[b6.av,b6.cs,Esc.sz,szs,h1]
theorem b6.fits {s:b6}(h:s.ok):dD kv s.av=true:=by
 have h1:=b6.sz h;have h2:s.av.isAgg=true:=rfl;simp[dD,h1,h2,kv,kZ.isAgg]
theorem b6.okv (s:b6):Esc.okv s.av=true:=by simp[b6.av,b6.cs,Esc.okv,mz,kM]
theorem wV {l:List b6}(h:∀ s∈l,s.ok):Esc.uni 34 (l.map b6.av)=true:=by
 simp only[Esc.uni,List.all_map,List.all_eq_true];intro s hs;simp[b6.sz (h s hs)]
theorem sa:∀ l:List b6,mz (l.map b6.av)=true
 | []=>rfl
 | s::l=>by simp[mz,b6.okv,sa l]
theorem uc (l:List b6) {j:Nat}{s:b6}(h:l[j]?=some s):(l.map b6.av)[j]?=some s.av:=by rw[List.getElem?_map,h];rfl
section
variable {F0:List AId}{G0 G:ak}{ps:List LP}{v:ah}{l:List b6}{j:Nat}{s:b6}{x:Int}
theorem y7 (h:ff 34 G v (l.map b6.av)) (hx:x=(j:Int)) (hj:l[j]?=some s):∃ a,aO T aV v (.int .i64 x)=some a/\ag T G cz a=some s.av:=by
 subst hx;exact h.at_ (k:=.i64) gz rfl jN (uc l hj) rfl
theorem BG (h:ff 34 G v (l.map b6.av)) (hx:x=(j:Int)) (hj:l[j]?=some s) (ho:s.ok):∃ a b,aO T aV v (.int .i64 x)=some a/\bt T cz a 2=some b/\ag T G du b=some (.bool s.full):=by
 subst hx;have h1:szs (s.secret.map u8v)=32:=by rw[gX (n:=1) (kd _)];simp[show s.secret.length=32 from ho]
 exact ff.fld (k:=.i64) (cs:=s.cs) gz rfl jN (fs:=[(aq,0),(ar,1),(du,33)]) (f:=2) (o:=33) rfl rfl lL (by decide) h (uc l hj) (by simp[b6.cs,szs,Esc.sz,h1]) rfl rfl
theorem Fk (h:ff 34 G v (l.map b6.av)) (hx:x=(j:Int)) (hj:l[j]?=some s):∃ a b,aO T aV v (.int .i64 x)=some a/\bt T cz a 0=some b/\ag T G aq b=some (.int .i64 s.index):=by
 subst hx;exact ff.fld (k:=.i64) (cs:=s.cs) gz rfl jN (fs:=[(aq,0),(ar,1),(du,33)]) (f:=0) (o:=0) rfl rfl cu (by decide) h (uc l hj) rfl rfl rfl
theorem DZ (h:ff 34 G v (l.map b6.av)) (hx:x=(j:Int)) (hj:l[j]?=some s) (ho:s.ok):∃ a b,aO T aV v (.int .i64 x)=some a/\bt T cz a 1=some b/\ag T G ar b=some (.agg (s.secret.map u8v)):=by
 subst hx;exact ff.fld (k:=.i64) (cs:=s.cs) gz rfl jN (fs:=[(aq,0),(ar,1),(du,33)]) (f:=1) (o:=1) rfl rfl bZ (by decide) h (uc l hj) (by simp[b6.cs,szs,Esc.sz]) rfl (AA ho)
theorem ot (h:ff 34 G v (l.map b6.av)):fU T G aV v=some (.int .i64 (l.length:Nat)):=by
 rw[h.len (i:=jr) gz rfl,List.length_map]
theorem re {i:Nat}{id:AId}(hs:Sp F0 G0 ps G) (hi:ps[i]?=some (au id s.av)) (ho:s.ok) :
  ag T G aq (.ptr id [0] 0)=some (.int .i64 s.index)/\ag T G ar (.ptr id [1] 1)=some (.agg (s.secret.map u8v))/\ag T G du (.ptr id [2] 33)=some (.bool s.full)/\ag T G cz (.ptr id [] 0)=some s.av:=by
 have hg:=au.own hs hi;have h1:szs (s.secret.map u8v)=32:=by rw[gX (n:=1) (kd _)];simp[show s.secret.length=32 from ho]
 refine⟨dI (c:=.int .i64 s.index) hg rfl rfl rfl cu rfl,dI (c:=.agg (s.secret.map u8v)) hg rfl rfl rfl bZ (AA ho),dI (cs:=s.cs) (c:=.bool s.full) hg rfl (by simp[b6.cs,szs,Esc.sz,h1]) rfl lL rfl,cj jN hg (b6.fits ho)⟩
theorem vd {i:Nat}{id:AId}{s':b6}(hs:Sp F0 G0 ps G) (hi:ps[i]?=some (au id s.av)) (h:s.ok) (h':s'.ok) {K:ak->Prop}(hK:∀ G',Sp F0 G0 (ps.set i (au id s'.av)) G'->K G'):wg (aF T G cz (.ptr id [] 0) s'.av) K:=by
 refine fg (ig jN (au.own hs hi) (b6.fits h') (by rw[b6.sz h,b6.sz h']) (b6.okv _)) ?_;exact hK _ (Sp.setRow hs hi _)
theorem MH {K:AId->ak->Prop}(hs:Sp F0 G0 ps G) (ho:s.ok) (hK:∀ i G',Sp F0 G0 (au i s.av::ps) G'->K i G') :
  br G (.own pW) fun i G2=>wg (aF T G2 cz (.ptr i [] 0) s.av) fun G3=>K i G3:=jL hs jN (b6.fits ho) (by rw[KZ,b6.sz oE,b6.sz ho]) (b6.okv s) hK
theorem B9 {i:Nat}{K:ah->ak->Prop}(hs:Sp F0 G0 ps G) (hi:ps[i]?=some (bm 34 v (l.map b6.av))) (ho:s.ok) (hl:(l.length+1)*48≤140737488355328) (hK:∀ v' G',Sp F0 G0 (ps.set i (bm 34 v' ((l++[s]).map b6.av))) G'->K v' G') :
  bu T aV 1 [(0,s.av)] G fun w G'=>cn T G' aV aV v w K:=by
 refine wm gz rfl jN (b6.sz oE) (by decide) hs hi (b6.sz ho) (b6.okv s) (by decide) (by rw[List.length_map];exact hl) fun s' G' h=>hK s' G' ?_;rw[List.map_append];exact h
end
theorem AQ {n:Int}{h:List UInt8}(hl:h.length=32) (b:Bool):bj T cz [(0,.int .i64 n),(1,.agg (h.map u8v)),(2,.bool b)]=some (b6.av ⟨n,h,b⟩):=by
 refine (kO (zs:=oF.cs) jN rfl rfl rfl (pf (by decide +kernel)) ?_).trans rfl;intro p hp;simp only[List.mem_cons,List.not_mem_nil,or_false]at hp;have e1:szs (h.map u8v)=32:=by rw[gX (n:=1) (kd _)];simp[hl]
 have e2:szs (mE.map u8v)=32:=by rw[gX (n:=1) (kd _)];rfl
 rcases hp with rfl|rfl|rfl
 ·rfl
 ·simp[oF,b6.cs,Esc.sz,e1,e2]
 ·simp[oF,b6.cs,Esc.sz]
theorem FZ:bj T cz []=some oF.av:=rfl
def atS (l:List b6) (j:Nat):b6:=if (l.getD j oF).full=true then l.getD j oF else oF
def vy (secret:List UInt8) (n:Int) (s:b6):Bool:=s.full && !decide (kN secret n s.index=(s.secret,0))
def vl (l:List b6) (n:Int) (secret:List UInt8):Bool:=(List.range (level (pl n))).all fun j=>!vy secret n (atS l j)
def Aq (l:List b6) (n:Int) (secret:List UInt8):List b6:=(List.range 49).map fun j=>if j=level (pl n) then ⟨n,secret,true⟩ else atS l j
def tw (l:List b6) (n:Int) (secret:List UInt8):List b6×Int:=
 if 49<l.length then ([],1) else if okN n=true then (if vl l n secret=true then (Aq l n secret,0) else ([],100)) else ([],90)
def ac3 (n:Int):List b6->List UInt8×Int
 | []=>(mE,5)
 | s::l=>if s.full=true/\(kN s.secret s.index n).2=0 then ((kN s.secret s.index n).1,0) else ac3 n l
def ac8 (l:List b6) (n:Int):List UInt8×Int:=if 49<l.length then (mE,1) else if okN n=true then ac3 n l else (mE,90)
theorem A8 {l:List b6}{j:Nat}{s:b6}(h:l[j]?=some s):atS l j=if s.full=true then s else oF:=by
 unfold atS;rw[List.getD_eq_getElem?_getD,h];rfl
theorem wF {l:List b6}{j:Nat}(h:l.length≤j):atS l j=oF:=by
 unfold atS;rw[List.getD_eq_getElem?_getD,List.getElem?_eq_none h];rfl
theorem JU {l:List b6}(h:∀ s∈l,s.ok) (j:Nat):(atS l j).ok:=by
 by_cases hj:j<l.length
 ·have hx:l[j]?=some l[j]:=List.getElem?_eq_getElem hj;rw[A8 hx];split
  ·exact h _ (List.mem_of_getElem? hx)
  ·exact oE
 ·rw[wF (by omega)];exact oE
theorem Ju {l:List b6}{n:Int}{secret:List UInt8}(h:∀ s∈l,s.ok) (hs:secret.length=32):∀ s∈Aq l n secret,s.ok:=by
 intro s hm;unfold Aq at hm;obtain⟨j,_,rfl⟩:=List.mem_map.1 hm;split
 ·exact hs
 ·exact JU h j
theorem Kq {l:List b6}{n:Int}{secret:List UInt8}(h:∀ s∈l,s.ok) (hs:secret.length=32):∀ s∈(tw l n secret).1,s.ok:=by
 unfold tw;intro s hm;split at hm
 ·simp at hm
 ·split at hm
  ·split at hm
   ·exact Ju h hs s hm
   ·simp at hm
  ·simp at hm
theorem HS (l:List b6) (n:Int) (secret:List UInt8):(Aq l n secret).length=49:=by simp[Aq]
theorem sb {l:List b6}{n:Int}{secret:List UInt8}:vl l n secret=true ↔ ∀ j,j<level (pl n)->vy secret n (atS l j)=false:=by
 unfold vl;rw[List.all_eq_true];constructor
 ·intro h j hj;have:=h j (List.mem_range.2 hj);simpa using this
 ·intro h j hj;have:=h j (List.mem_range.1 hj);simp[this]
theorem I5 (l:List b6) (n:Int) (secret:List UInt8):(tw l n secret).1.length≤49:=by
 unfold tw;split
 ·simp
 ·split
  ·split
   ·rw[HS];omega
   ·simp
  ·simp
theorem acX {n:Int}:∀ {l:List b6},(∀ s∈l,s.ok)->(ac3 n l).1.length=32
 | [],_=>rfl
 | s::l,h=>by
  unfold ac3;split
  ·exact Ak (h s (by simp)) _ _
  ·exact acX fun x hx=>h x (by simp[hx])
theorem acW {n:Int}{l:List b6}(h:∀ s∈l,s.ok):(ac8 l n).1.length=32:=by
 unfold ac8;split
 ·rfl
 ·split
  ·exact acX h
  ·rfl
end Go.Esc.M
namespace Go.Esc.M
open Go Go.Esc
section
variable {F0:List AId}{G0 G:ak}{ps:List LP}{Q:ah->ak->Prop}
theorem acw.use {v:ah}{l:List b6}{n:Int}(hT:Tab G) (hl:ff 34 G v (l.map b6.av)) (hok:∀ s∈l,s.ok) (hlen:l.length*48≤140737488351232)
  (hQ:∀ G',Ch [] G [] G'->Q (BB (ac8 l n)) G'):al P acw.n [v,.int .i64 n] G Q:=by
 refine acw.sound ?_;unfold acw.S;rw[mF];intro i1 f1;have s1:=(Sp.nil G).row f1 (.agg ((List.replicate 32 (0:UInt8)).map u8v));have z1:mE.length=32:=rfl;unfold ac8 at hQ;have out:∀ (h h':List UInt8) (e:Int) (G':ak),h.length=32->h'.length=32->Sp [] G [au i1 (.agg (h'.map u8v))] G'->(∀ G',Ch [] G [] G'->Q (BB (h,e)) G') ->
   wg (aF T G' ar (.ptr i1 [] 0) (.agg (h.map u8v))) fun G6=>wv (ag T G6 ar (.ptr i1 [] 0)) fun v7=>Q (.tuple [v7,.int .i64 e]) G6:=by
  intro h h' e G' hh hh' sp hk;refine fg (gA hh' hh (au.own (i:=0) sp rfl)) ?_;have s2:=Sp.setRow (j:=0) sp rfl (.agg (h.map u8v));refine ae (bM hh (au.own (i:=0) s2 rfl)) ?_;exact hk _ s2.ch
 refine ae (ot (hl.ch' s1.ch)) ?_;rw[da,aa,aI];refine⟨fun h=>?_,fun h=>?_⟩
 ·rw[if_pos (by omega)]at hQ;refine ae rI ?_;exact out _ _ _ _ (by simp) (by simp) s1 hQ
 rw[if_neg (by omega)]at hQ;intro J52;have bad:okN n=false->J52 (.bool true) (G.upd i1 (.own (.agg ((List.replicate 32 (0:UInt8)).map u8v)))):=by
  intro hn;rw[hn,if_neg (by simp)]at hQ;simp -zeta only [J52,aN];refine ae rI ?_;exact out _ _ _ _ (by simp) (by simp) s1 hQ
 have lK:okN n=true->J52 (.bool false) (G.upd i1 (.own (.agg ((List.replicate 32 (0:UInt8)).map u8v)))):=by
  intro hn;rw[hn,if_pos rfl]at hQ;simp -zeta only [J52,aK];refine ae (ot (hl.ch' s1.ch)) ?_;intro R hR;have loop:∀ (m j:Nat) (G':ak),l.length-j=m->j≤l.length->ac3 n l=ac3 n (l.drop j)->Sp [] G [au i1 (.agg ((List.replicate 32 (0:UInt8)).map u8v))] G' ->
    R [v,.int .i64 n,.ptr i1 [] 0,.int .i64 (l.length:Int),.int .i64 (j:Int)] G':=by
   intro m;induction m with
   | zero=>
    intro j G' hm hj he sp;refine hR _ _ _ _ _ _ ?_;rw[aM,aa,dF_ (by omega),aK];rw[List.drop_eq_nil_of_le (by omega)]at he;rw[he]at hQ;refine ae rI ?_;exact out _ _ _ _ (by simp) (by simp) sp hQ
   | succ m ih=>
    intro j G' hm hj he sp;obtain⟨s,hsj⟩:∃ s,l[j]?=some s:=⟨_,List.getElem?_eq_getElem (by omega)⟩;have hso:=hok s (List.mem_of_getElem? hsj);have hdr:l.drop j=s::l.drop (j+1):=by
     rw[List.drop_eq_getElem_cons (by omega)];rw[List.getElem?_eq_getElem (by omega)]at hsj;injection hsj with hsj;rw[hsj]
    rw[hdr,ac3]at he;refine hR _ _ _ _ _ _ ?_;rw[aM,aa,dT_ (by omega),aN];obtain⟨a,b,e1,e2,e3⟩:=BG (hl.ch' sp.ch) rfl hsj hso;refine ae e1 ?_;refine ae e2 ?_;refine ae e3 ?_;rw[dx,aa];have ev:az T .add ay (.int .i64 (j:Int)) (.int .i64 1)=some (.int .i64 ((j+1:Nat):Int)):=by
     rw[bg,i64_in (by omega) (by omega)];rfl
    cases hf:s.full with
    | false=>
     rw[hf,if_neg (by simp)]at he;rw[Bool.not_false,aN];exact ae ev (ih (j+1) G' (by omega) (by omega) he sp)
    | true=>
     rw[Bool.not_true,aK];obtain⟨a,b,e1,e2,e3⟩:=DZ (hl.ch' sp.ch) rfl hsj hso;refine ae e1 ?_;refine ae e2 ?_;refine ae e3 ?_;obtain⟨a,b,e1,e2,e3⟩:=Fk (hl.ch' sp.ch) rfl hsj;refine ae e1 ?_;refine ae e2 ?_;refine ae e3 ?_;refine ju.use (hT.mono sp.ro) hso fun G35 c35=>?_;have s35:=sp.tmp c35;refine ae (hi0 _) ?_;refine ae (hi1 _) ?_;have hdl:=Ak (s:=s.secret) hso s.index n;refine Ml s35 hdl fun i38 G40 s40=>?_;rw[bB,aa];by_cases hz:(kN s.secret s.index n).2=0
     ·rw[if_pos ⟨hf,hz⟩]at he;rw[he]at hQ;rw[dT_ hz,aN];refine ae (bM hdl (au.own (i:=0) s40 rfl)) ?_;exact out _ _ _ _ hdl (by simp) (s40.erase 0) hQ
     ·rw[if_neg (fun h=>hz h.2)]at he;rw[dF_ hz,aK];exact ae ev (ih (j+1) G40 (by omega) (by omega) he (s40.erase 0))
  exact loop l.length 0 _ rfl (by omega) rfl s1
 have hiff:=GJ (n:=n);rw[aM,aa,aI];refine⟨fun h=>bad (Bool.eq_false_iff.2 fun hh=>?_),fun h=>?_⟩
 ·have:=hiff.1 hh;omega
 ·rw[da,aa];by_cases h2:n > 281474976710655
  ·rw[dT_ h2];exact bad (Bool.eq_false_iff.2 fun hh=>by have:=hiff.1 hh;omega)
  ·rw[dF_ h2];exact lK (hiff.2 ⟨by omega,by omega⟩)
end
end Go.Esc.M
namespace Go.Esc.M
open Go Go.Esc
section
variable {F0:List AId}{G0 G:ak}{ps:List LP}{Q:ah->ak->Prop}
def LX (k:Nat) (n:Int):Int:=if 49<k then 1 else if okN n=true then 0 else 90
theorem fq.use {v:ah}{l:List b6}{n:Int}(hl:ff 34 G v (l.map b6.av)) (hQ:Q (.int .i64 (LX l.length n)) G):al P fq.n [v,.int .i64 n] G Q:=by
 refine fq.sound ?_;unfold fq.S;unfold LX at hQ;have hiff:=GJ (n:=n);refine ae (ot hl) ?_;rw[da,aa,aI];refine⟨fun h=>?_,fun h=>?_⟩
 ·rw[if_pos (by omega)]at hQ;exact hQ
 rw[if_neg (by omega)]at hQ;rw[aM,aa,aI];refine⟨fun h=>?_,fun h=>?_⟩
 ·rw[if_neg (fun hh=>by have:=hiff.1 hh;omega)]at hQ;exact hQ
 rw[da,aa,aI];refine⟨fun h=>?_,fun h=>?_⟩
 ·rw[if_neg (fun hh=>by have:=hiff.1 hh;omega)]at hQ;exact hQ
 ·rw[if_pos (hiff.2 ⟨by omega,by omega⟩)]at hQ;exact hQ
theorem gW.use {v:ah}{l:List b6}{j:Nat}(hl:ff 34 G v (l.map b6.av)) (hok:∀ s∈l,s.ok) (hlen:l.length*48≤140737488351232) (hQ:∀ G',Ch [] G [] G'->Q (atS l j).av G'):al P gW.n [v,.int .i64 (j:Int)] G Q:=by
 refine gW.sound ?_;unfold gW.S;rw[KZ];intro i1 f1;have s1:=(Sp.nil G).row f1 oF.av;intro J17;have no:atS l j=oF->J17 (.bool false) (G.upd i1 (.own oF.av)):=by
  intro h;rw[h]at hQ;simp -zeta only [J17,aK];refine ae FZ ?_;refine vd (i:=0) s1 rfl oE oE fun G' s=>?_;refine ae (re (i:=0) s rfl oE).2.2.2 ?_;exact hQ _ s.ch
 refine ae (ot (hl.ch' s1.ch)) ?_;rw[aM,aa,aI];refine⟨fun h=>?_,fun h=>no (wF (by omega))⟩;obtain⟨s,hsj⟩:∃ s,l[j]?=some s:=⟨_,List.getElem?_eq_getElem (by omega)⟩;have hso:=hok s (List.mem_of_getElem? hsj);have hat:=A8 hsj;obtain⟨a,b,e1,e2,e3⟩:=BG (hl.ch' s1.ch) rfl hsj hso;refine ae e1 ?_;refine ae e2 ?_;refine ae e3 ?_;cases hf:s.full with
 | false=>
  rw[hf,if_neg (by simp)]at hat;exact no hat
 | true=>
  rw[hf,if_pos rfl]at hat;rw[hat]at hQ;simp -zeta only [J17,aN];obtain⟨a,e1,e2⟩:=y7 (hl.ch' s1.ch) rfl hsj;refine ae e1 ?_;refine ae e2 ?_;refine vd (i:=0) s1 rfl oE hso fun G' s'=>?_;refine ae (re (i:=0) s' rfl hso).2.2.2 ?_;exact hQ _ s'.ch
def ace (l:List b6) (n:Int) (secret:List UInt8) (j:Nat):List b6:=(List.range j).map fun q=>if q=level (pl n) then ⟨n,secret,true⟩ else atS l q
theorem Ar (l:List b6) (n:Int) (secret:List UInt8) (j:Nat):ace l n secret (j+1)=ace l n secret j++[if j=level (pl n) then ⟨n,secret,true⟩ else atS l j]:=by
 unfold ace;rw[List.range_succ,List.map_append];rfl
theorem HT (l:List b6) (n:Int) (secret:List UInt8) (j:Nat):(ace l n secret j).length=j:=by simp[ace]
theorem fN.use {v:ah}{l:List b6}{n:Int}{secret:List UInt8}(hl:ff 34 G v (l.map b6.av)) (hok:∀ s∈l,s.ok) (hlen:l.length*48≤140737488351232) (hs:secret.length=32)
    (hQ:∀ w G',Sp [] G [bm 34 w ((tw l n secret).1.map b6.av)] G'->Q (.tuple [w,.int .i64 (tw l n secret).2]) G'):al P fN.n [v,.int .i64 n,.agg (secret.map u8v)] G Q:=by
  refine fN.sound ?_;unfold fN.S;intro i1 f1;have s1:=(Sp.nil G).row f1 (.agg (secret.map u8v));refine fq.use (hl.ch' s1.ch) ?_;unfold tw at hQ;unfold LX;by_cases h49:49<l.length
  · rw[if_pos h49]at hQ ⊢
    refine ae (v:=.bool true) rfl ?_;rw[aN];exact hQ _ _ ((s1.nz 34).erase 1)
  rw[if_neg h49]at hQ ⊢;cases hn:okN n with
  | false=>
    rw[hn,if_neg (by simp)]at hQ;rw[if_neg (by simp)];refine ae (v:=.bool true) rfl ?_;rw[aN];exact hQ _ _ ((s1.nz 34).erase 1)
  | true=>
    rw[hn,if_pos rfl]at hQ;rw[if_pos rfl,nz0,aa,aK];refine fu.use fun G7 c7=>?_;have s1:=s1.tmp c7;refine ae (ii0 _) ?_;refine ae (ii1 _) ?_;rw[El hn];have hlv:=rq (pl n);intro R hR;have loop:∀ (m j:Nat) (w:ah) (G':ak),49-j=m->j≤49->(∀ q,q<j->q<level (pl n)->vy secret n (atS l q)=false)->Sp [] G [bm 34 w ((ace l n secret j).map b6.av),au i1 (.agg (secret.map u8v))] G' ->
        R [v,.int .i64 n,.ptr i1 [] 0,.int .i64 ((level (pl n):Nat):Int),w,.int .i64 (j:Int)] G':=by
      intro m;induction m with
      | zero=>
        intro j w G' hm hj hb sp;have hjl:j=49:=(by omega);subst hjl;have hall:vl l n secret=true:=by
          rw[sb];intro q hq;exact hb q (by omega) hq
        rw[hall,if_pos rfl]at hQ;refine hR _ _ _ _ _ _ _ ?_;rw[aM,aa,dF_ (by omega),aK];exact hQ _ _ (sp.erase 1)
      | succ m ih=>
        intro j w G' hm hj hb sp;refine hR _ _ _ _ _ _ _ ?_;rw[aM,aa,dT_ (by omega),aN];have hao:=JU hok j;have ev:az T .add ay (.int .i64 (j:Int)) (.int .i64 1)=some (.int .i64 ((j+1:Nat):Int)):=by
          rw[bg,i64_in (by omega) (by omega)];rfl
        refine gW.use (hl.ch' sp.ch) hok hlen fun G20 c20=>?_;have s20:=sp.tmp c20;obtain⟨x,hx⟩:∃ x,x=atS l j:=⟨_,rfl⟩;rw[<- hx]at hao ⊢;refine MH s20 hao fun i21 G23 s23=>?_;intro J65;have h64:∀ G43,Sp [] G [au i21 x.av,bm 34 w ((ace l n secret j).map b6.av),au i1 (.agg (secret.map u8v))] G43->(j<level (pl n)->vy secret n (atS l j)=false) ->
            (wv (az T .eql ay (.int .i64 (j:Int)) (.int .i64 ((level (pl n):Nat):Int))) fun v44=>brB (some v44)
  (wv (ag T G43 ar (.ptr i1 [] 0)) fun v45=>wv (bj T cz [(0,.int .i64 n),(1,v45),(2,.bool true)]) fun v46=>wg (aF T G43 cz (.ptr i21 [] 0) v46) fun G47=>wv (ag T G47 cz (.ptr i21 [] 0)) fun v54=>bu T aV 1 [(0,v54)] G47 fun v55 G56=>cn T G56 aV aV w v55 fun v57 G58=>wv (az T .add ay (.int .i64 (j:Int)) (.int .i64 1)) fun v69=>R [v,.int .i64 n,.ptr i1 [] 0,.int .i64 ((level (pl n):Nat):Int),v57,v69] G58)
  (wv (ag T G43 cz (.ptr i21 [] 0)) fun v59=>bu T aV 1 [(0,v59)] G43 fun v60 G61=>cn T G61 aV aV w v60 fun v62 G63=>wv (az T .add ay (.int .i64 (j:Int)) (.int .i64 1)) fun v70=>R [v,.int .i64 n,.ptr i1 [] 0,.int .i64 ((level (pl n):Nat):Int),v62,v70] G63)):=by
          intro G43 s43 hbj;have hb':∀ q,q<j+1->q<level (pl n)->vy secret n (atS l q)=false:=fun q hq hq2=>by
            by_cases hqj:q=j
            · subst hqj;exact hbj hq2
            · exact hb q (by omega) hq2
          have hgl:((ace l n secret j).length+1)*48≤140737488355328:=(by rw[HT];omega);rw[bB,aa,aI];refine⟨fun he=>?_,fun he=>?_⟩
          · refine ae (bM hs (au.own (i:=2) s43 rfl)) ?_
            refine ae (AQ hs true) ?_;refine vd (i:=0) (s':=⟨n,secret,true⟩) s43 rfl hao hs fun G47 s47=>?_;refine ae (re (i:=0) (s:=⟨n,secret,true⟩) s47 rfl hs).2.2.2 ?_;refine B9 (i:=1) (s:=⟨n,secret,true⟩) s47 rfl hs hgl fun w' G58 s58=>?_;have s58:=s58.erase 0;have e:ace l n secret j++[⟨n,secret,true⟩]=ace l n secret (j+1):=(by rw[Ar,if_pos (by omega)]);rw[e]at s58;exact ae ev (ih (j+1) w' G58 (by omega) (by omega) hb' s58)
          · refine ae (re (i:=0) s43 rfl hao).2.2.2 ?_
            refine B9 (i:=1) s43 rfl hao hgl fun w' G58 s58=>?_;have s58:=s58.erase 0;have e:ace l n secret j++[x]=ace l n secret (j+1):=(by rw[Ar,if_neg (by omega),hx]);rw[e]at s58;exact ae ev (ih (j+1) w' G58 (by omega) (by omega) hb' s58)
        have hbad:vy secret n (atS l j)=true->j<level (pl n)->vl l n secret=false:=by
          intro hbad hj2;refine Bool.eq_false_iff.2 fun h=>?_;rw[sb]at h;rw[h j hj2]at hbad;cases hbad
        have h65n:(j<level (pl n)->vy secret n (atS l j)=false)->J65 (.bool false) G23:=by
          intro hbj;simp -zeta only [J65,aK];exact h64 G23 s23 hbj
        rw[aM,aa,aI];refine⟨fun hjl=>?_,fun hjl=>h65n fun h=>absurd h (by omega)⟩;have hjl:j<level (pl n):=(by omega);obtain⟨l0,l1,l2,l3⟩:=re (i:=0) s23 rfl hao;refine ae l2 ?_;cases hf:x.full with
        | false=>
          refine h65n fun _=>?_;rw[<- hx];unfold vy;rw[hf];rfl
        | true=>
          simp -zeta only [J65,aN];have hbadj:vy secret n (atS l j)=!decide (kN secret n x.index=(x.secret,0)):=(by rw[<- hx];unfold vy;rw[hf,Bool.true_and]);refine ae (bM hs (au.own (i:=2) s23 rfl)) ?_;refine ae l0 ?_;refine eM.use hs fun G31 c31=>?_;have s31:=s23.tmp c31;refine ae (hi0 _) ?_;refine ae (hi1 _) ?_;have hdl:=Ak hs n x.index;refine Ml s31 hdl fun i34 G36 s36=>?_;have fail:vy secret n (atS l j)=true->Q (.tuple [.nilSlice,.int .i64 100]) G36:=by
            intro hb1;rw[hbad hb1 hjl,if_neg (by simp)]at hQ;exact hQ _ _ (((((s36.nz 34).erase 1).erase 1).erase 1).erase 1)
          rw[cD,aa];by_cases hz:(kN secret n x.index).2=0
          · rw[dT_ hz,Bool.not_true,aK]
            refine ae (bM hdl (au.own (i:=0) s36 rfl)) ?_;refine ae (re (i:=1) s36 rfl hao).2.1 ?_;refine ae (B6 hdl hao) ?_;by_cases hd:(kN secret n x.index).1=x.secret
            · rw[dT_ hd,Bool.not_true,aK]
              refine h64 G36 (s36.erase 0) fun _=>?_;rw[hbadj,dT_ (Prod.ext hd hz)];rfl
            · rw[dF_ hd,Bool.not_false,aN]
              refine fail ?_;rw[hbadj,dF_ fun h=>hd (by rw[h])];rfl
          · rw[dF_ hz,Bool.not_false,aN]
            refine fail ?_;rw[hbadj,dF_ fun h=>hz (by rw[h])];rfl
    exact loop 49 0 .nilSlice _ rfl (by omega) (fun q hq=>by omega) (s1.nz 34)
theorem ahg {n:Int}{l:List b6}(j:Nat):ac3 n (l.drop j)=if (atS l j).full=true/\(kN (atS l j).secret (atS l j).index n).2=0 then ((kN (atS l j).secret (atS l j).index n).1,0) else ac3 n (l.drop (j+1)):=by
 by_cases hj:j<l.length
 ·have hx:l[j]?=some l[j]:=List.getElem?_eq_getElem hj;rw[List.drop_eq_getElem_cons hj,ac3,A8 hx];cases hf:l[j].full with
  | false=>simp[oF]
  | true=>simp[hf]
 ·rw[List.drop_eq_nil_of_le (by omega),List.drop_eq_nil_of_le (by omega),wF (by omega)];simp[oF]
end
end Go.Esc.M
namespace Go.Esc.M
open Go Go.Esc
end Go.Esc.M
namespace Go.Esc.M
open Go Go.Esc
def agP (n:Int) (s:b6):Prop:=s.full=true/\(kN s.secret s.index n).2=0
theorem ahf {n:Int}{l:List b6}:∀ (j:Nat),(∀ q,q<j->¬ agP n (atS l q))->ac3 n l=ac3 n (l.drop j)
 | 0,_=>rfl
 | j+1,h=>by
  rw[ahf j fun q hq=>h q (by omega),ahg];exact if_neg (h j (by omega))
theorem ah1 {n:Int}{l:List b6}(j:Nat) (h:∀ q,q<j->¬ agP n (atS l q)) (hj:agP n (atS l j)):ac3 n l=((kN (atS l j).secret (atS l j).index n).1,0):=by
 rw[ahf j h,ahg];exact if_pos hj
theorem ahK {n:Int}{l:List b6}{q:Nat}(hq:agP n (atS l q)):∃ j,j≤q/\agP n (atS l j)/\(∀ p,p<j->¬ agP n (atS l p))/\ac3 n l=((kN (atS l j).secret (atS l j).index n).1,0):=by
 have:∀ m,∀ q,q≤m->agP n (atS l q)->∃ j,j≤q/\agP n (atS l j)/\∀ p,p<j->¬ agP n (atS l p):=by
  intro m;induction m with
  | zero=>
   intro q hq h;exact⟨q,Nat.le_refl _,h,fun p hp=>by omega⟩
  | succ m ih=>
   intro q hq h;by_cases hh:∃ p,p<q/\agP n (atS l p)
   ·obtain⟨p,hp,ht⟩:=hh;obtain⟨j,h1,h2,h3⟩:=ih p (by omega) ht;exact⟨j,by omega,h2,h3⟩
   ·exact⟨q,Nat.le_refl _,h,fun p hp ht=>hh ⟨p,hp,ht⟩⟩
 obtain⟨j,h1,h2,h3⟩:=this q q (Nat.le_refl _) hq;exact⟨j,h1,h2,h3,ah1 j h3 h2⟩
section
variable {F0:List AId}{G0 G:ak}{ps:List LP}{Q:ah->ak->Prop}
theorem ok1:okN 1=true:=by decide
theorem ok2:okN 2=true:=by decide
end
end Go.Esc.M
namespace Go.Esc.M
open Go Go.Esc
end Go.Esc.M
namespace Go.Esc.M
open Go Go.Esc
theorem ahA {s h:List UInt8}{a b:Int}(hd:kN s a b=(h,0)):okN a=true/\okN b=true/\pl a/2 ^ level (pl a)=pl b/2 ^ level (pl a)/\h=mj (pl b) (level (pl a)) s:=by
 unfold kN at hd;cases ha:okN a with
 | false=>
  rw[ha]at hd;have:=congrArg Prod.snd hd;cases this
 | true=>
  cases hb:okN b with
  | false=>
   rw[ha,hb]at hd;have:=congrArg Prod.snd hd;cases this
  | true=>
   rw[ha,hb,Bool.and_self,cond_true]at hd;by_cases hh:pl a/2 ^ level (pl a)=pl b/2 ^ level (pl a)
   ·rw[if_pos hh]at hd;exact⟨rfl,rfl,hh,(congrArg Prod.fst hd).symm⟩
   ·rw[if_neg hh]at hd;have:=congrArg Prod.snd hd;cases this
theorem ahw {s:List UInt8}{a:Int}(ha:okN a=true):kN s a a=(s,0):=by
 rw[ahL ha ha rfl,aa4 (BZ _) _ _ (Nat.le_refl _)]
theorem ahv {s:List UInt8}{a b:Int}(h:(kN s a b).2=0):kN s a b=((kN s a b).1,0):=Prod.ext rfl h
end Go.Esc.M
namespace Go.Esc.M
open Go Go.Esc
section
variable {F0:List AId}{G0 G:ak}{ps:List LP}{Q:ah->ak->Prop}
theorem pg {h:List UInt8}{K:AId->ak->Prop}(hs:Sp F0 G0 ps G) (hl:h.length=32) (hK:∀ i G',Sp F0 G0 (au i (.agg (h.map u8v))::ps) G'->K i G') :
  br G (.own dm) fun i G2=>wg (aF T G2 ar (.ptr i [] 0) (.agg (h.map u8v))) fun G3=>K i G3:=by
 intro i hf;rw[mF];have s:=hs.row hf (.agg ((List.replicate 32 (0:UInt8)).map u8v));rw[gA (by simp) hl (au.own (i:=0) s rfl),jl];exact hK _ _ (Sp.setRow s (j:=0) rfl _)
theorem ug {i:Nat}{id:AId}{h:List UInt8}(hs:Sp F0 G0 ps G) (hi:ps[i]?=some (au id (.agg (h.map u8v)))) (hl:h.length=32):ag T G ar (.ptr id [] 0)=some (.agg (h.map u8v)):=bM hl (au.own hs hi)
theorem j3.use {key text:List UInt8}(hk:key.length=32) (hl:text.length≤281474976700000) (hQ:∀ G',Ch [] G [] G'->Q (.agg ((mac key text).map u8v)) G'):al P j3.n [.agg (key.map u8v),.str text] G Q:=by
 refine j3.sound ?_;unfold j3.S;rw[mF];intro i1 f1;have s1:=(Sp.nil G).row f1 (.agg (key.map u8v));intro i3 f3;have s3:=s1.row f3 (.agg ((List.replicate 32 (0:UInt8)).map u8v));rw[ug (i:=1) s3 rfl hk,aa];refine l9.use hk (by omega) fun G7 c7=>?_;have s7:=s3.tmp c7;have hm:(mac key text).length=32:=gU _;rw[gA (by simp) hm (au.own (i:=0) s7 rfl),jl,bM hm (ak.dR _ _ _),aa];exact hQ _ (Sp.setRow s7 (j:=0) rfl (.agg ((mac key text).map u8v))).ch
theorem fc.use {key text:List UInt8}(hk:key.length=32) (hl:text.length≤140737488354000) (hQ:∀ G',Ch [] G [] G'->Q (.agg ((mac key text).map u8v)) G'):al P fc.n [.agg (key.map u8v),.str text] G Q:=by
 refine fc.sound ?_;unfold fc.S;rw[mF];intro i1 f1;have s1:=(Sp.nil G).row f1 (.agg (key.map u8v));intro i3 f3;have s3:=s1.row f3 (.agg ((List.replicate 32 (0:UInt8)).map u8v));rw[ug (i:=1) s3 rfl hk,aa];refine gB.use hk hl fun G7 c7=>?_;have s7:=s3.tmp c7;have hm:(mac key text).length=32:=gU _;rw[gA (by simp) hm (au.own (i:=0) s7 rfl),jl,bM hm (ak.dR _ _ _),aa];exact hQ _ (Sp.setRow s7 (j:=0) rfl (.agg ((mac key text).map u8v))).ch
theorem fl.use {key text sig:List UInt8}(hk:key.length=32) (hs:sig.length=32) (hl:text.length≤140737488354000) (hQ:∀ G',Ch [] G [] G'->Q (.bool (decide (mac key text=sig))) G') :
  al P fl.n [.agg (key.map u8v),.str text,.agg (sig.map u8v)] G Q:=by
 refine fl.sound ?_;unfold fl.S;intro i1 f1;have s1:=(Sp.nil G).row f1 (.agg (key.map u8v));intro i3 f3;have s3:=s1.row f3 (.agg (sig.map u8v));rw[ug (i:=1) s3 rfl hk,aa];refine fc.use hk hl fun G7 c7=>?_;have s7:=s3.tmp c7;obtain⟨m,hm,hml⟩:∃ m,mac key text=m/\m.length=32:=⟨_,rfl,gU _⟩;rw[hm]at hQ ⊢;refine pg s7 hml fun i8 G10 s10=>?_;intro R11 hR11;have loop:∀ (n j:Nat),32-j=n->j≤32->m.take j=sig.take j->R11 [.ptr i3 [] 0,.ptr i8 [] 0,.int .i64 (j:Int)] G10:=by
  intro n;induction n with
  | zero=>
   intro j hn hj he;have:j=32:=(by omega);subst this;rw[List.take_of_length_le (by omega),List.take_of_length_le (by omega)]at he;refine hR11 _ _ _ _ ?_;rw[aM,aa,aI];refine⟨fun h=>absurd h (by decide),fun _=>?_⟩;have:=hQ _ s10.ch;rw[dT_ he]at this;exact this
  | succ n ih=>
   intro j hn hj he;refine hR11 _ _ _ _ ?_;rw[aM,aa,aI];refine⟨fun _=>?_,fun h=>absurd (by omega) h⟩;rw[nQ (by omega),aa,pQ (by omega) (au.own (i:=0) s10 rfl),aa,nQ (by omega),aa,pQ (by omega) (au.own (i:=1) s10 rfl),aa];show wv (az T .neq cm (.int .u8 (m[j]'(by omega)).toNat) (.int .u8 (sig[j]'(by omega)).toNat)) _;rw[cD,aa,dC];refine⟨fun hne=>?_,fun heq=>?_⟩
   ·have:=hQ _ s10.ch;rw[dF_ (fun e=>hne (by subst e;rfl))]at this;exact this
   ·rw[bg,aa,i64_in (by omega) (by omega)];refine ih (j+1) (by omega) (by omega) ?_;rw[List.take_succ_eq_append_getElem (by omega),List.take_succ_eq_append_getElem (by omega),he];have:m[j]'(by omega)=sig[j]'(by omega):=UInt8.toNat_inj.1 (by omega);rw[this]
 exact loop 32 0 rfl (by omega) rfl
end
end Go.Esc.M
