import Derived.Test.YtkojimdacnohpaaGreatDoorLPw
import Derived.Test.YtkojimdacnohpaaGreatDoorLDc
import Derived.Test.YtkojimdacnohpaaGreatDoorLCy
set_option linter.unusedSimpArgs false
set_option linter.unusedVariables false
set_option maxRecDepth 20000
namespace Go.Esc.M
open Go Go.Esc
structure StM where
 side:Int
 cap:Int
 bo:Int
 bp:Int
 loc:Int
 rem:Int
 ack:Int
 atA:Int
 atB:Int
 sgnA:Int
 sgnB:Int
 heldA:Int
 heldB:Int
 behind:Bool
 ptsA:List UInt8
 ptsB:List UInt8
 sig:List UInt8
 failed:Int
 closed:Int
def StM.cs (s:StM) (v_ours v_peers v_shelf:ag):List ag:=[.int .i64 s.side,.int .i64 s.cap,.int .i64 s.bo,.int .i64 s.bp,v_ours,v_peers,.int .i64 s.loc,.int .i64 s.rem,.int .i64 s.ack,.agg [.int .i64 s.atA,.int .i64 s.atB],.agg [.int .i64 s.sgnA,.int .i64 s.sgnB],.agg [.int .i64 s.heldA,.int .i64 s.heldB],.bool s.behind,.agg [.agg (s.ptsA.map u8v),.agg (s.ptsB.map u8v)],.agg (s.sig.map u8v),v_shelf,.int .i64 s.failed,.int .i64 s.closed]
def StM.av (s:StM) (v_ours v_peers v_shelf:ag):ag:=.agg (s.cs v_ours v_peers v_shelf)
structure StM.ok (s:StM):Prop where
 side:I64 s.side
 cap:I64 s.cap
 bo:I64 s.bo
 bp:I64 s.bp
 loc:I64 s.loc
 rem:I64 s.rem
 ack:I64 s.ack
 atA:I64 s.atA
 atB:I64 s.atB
 sgnA:I64 s.sgnA
 sgnB:I64 s.sgnB
 heldA:I64 s.heldA
 heldB:I64 s.heldB
 ptsA:s.ptsA.length = 32
 ptsB:s.ptsB.length = 32
 sig:s.sig.length = 32
 failed:I64 s.failed
 closed:I64 s.closed
theorem StM.szl {s:StM} {v_ours v_peers v_shelf:ag} (h:s.ok) (l:bz v_ours /\ bz v_peers /\ bz v_shelf):(s.cs v_ours v_peers v_shelf).map Esc.sz = [1,1,1,1,1,1,1,1,1,2,2,2,1,64,32,1,1,1]:=by
 simp [StM.cs,Esc.sz,szs,szh h.ptsA,szh h.ptsB,szh h.sig,l.1.1,l.2.1.1,l.2.2.1]
theorem StM.sz {s:StM} {v_ours v_peers v_shelf:ag} (h:s.ok) (l:bz v_ours /\ bz v_peers /\ bz v_shelf):Esc.sz (s.av v_ours v_peers v_shelf) = 115:=by
 have e:=StM.szl h l
 rw [StM.av,Esc.sz,qT,e]; rfl
theorem StM.fits {s:StM} {v_ours v_peers v_shelf:ag} (h:s.ok) (l:bz v_ours /\ bz v_peers /\ bz v_shelf):fa nA (s.av v_ours v_peers v_shelf) = true:=by
 have h1:=StM.sz h l
 have h2:(s.av v_ours v_peers v_shelf).isAgg = true:=rfl
 simp [fa,h1,h2,nA,j4.isAgg]
theorem StM.okv {s:StM} {v_ours v_peers v_shelf:ag} (l:bz v_ours /\ bz v_peers /\ bz v_shelf):Esc.okv (s.av v_ours v_peers v_shelf) = true:=by
 simp [StM.av,StM.cs,Esc.okv,kT,jx,l.1.2.2,l.2.1.2.2,l.2.2.2.2]
section
variable {F0:List AId} {G0 G:ah} {ps:List LP} {i:Nat} {id:AId} {s:StM} {K:ah -> Prop} {v_ours v_peers v_shelf:ag}
theorem St.m8 (hg:G id = some (.own (s.av v_ours v_peers v_shelf))) (h:s.ok) (l:bz v_ours /\ bz v_peers /\ bz v_shelf):lq T G au (.ptr id [0] 0) = some (.int .i64 s.side):=ld1 hg (StM.szl h l) rfl rfl hO rfl
theorem St.nI (hg:G id = some (.own (s.av v_ours v_peers v_shelf))) (h:s.ok) (l:bz v_ours /\ bz v_peers /\ bz v_shelf):lq T G me (.ptr id [1] 1) = some (.int .i64 s.cap):=ld1 hg (StM.szl h l) rfl rfl cA rfl
theorem St.FE (hg:G id = some (.own (s.av v_ours v_peers v_shelf))) (h:s.ok) (l:bz v_ours /\ bz v_peers /\ bz v_shelf):lq T G me (.ptr id [2] 2) = some (.int .i64 s.bo):=ld1 hg (StM.szl h l) rfl rfl cA rfl
theorem St.FD (hg:G id = some (.own (s.av v_ours v_peers v_shelf))) (h:s.ok) (l:bz v_ours /\ bz v_peers /\ bz v_shelf):lq T G me (.ptr id [3] 3) = some (.int .i64 s.bp):=ld1 hg (StM.szl h l) rfl rfl cA rfl
theorem St.gG (hg:G id = some (.own (s.av v_ours v_peers v_shelf))) (h:s.ok) (l:bz v_ours /\ bz v_peers /\ bz v_shelf):lq T G ak (.ptr id [4] 4) = some (v_ours):=ld1 hg (StM.szl h l) rfl rfl cn (jg l.1 rfl)
theorem St.iP (hg:G id = some (.own (s.av v_ours v_peers v_shelf))) (h:s.ok) (l:bz v_ours /\ bz v_peers /\ bz v_shelf):lq T G ak (.ptr id [5] 5) = some (v_peers):=ld1 hg (StM.szl h l) rfl rfl cn (jg l.2.1 rfl)
theorem St.pq (hg:G id = some (.own (s.av v_ours v_peers v_shelf))) (h:s.ok) (l:bz v_ours /\ bz v_peers /\ bz v_shelf):lq T G me (.ptr id [6] 6) = some (.int .i64 s.loc):=ld1 hg (StM.szl h l) rfl rfl cA rfl
theorem St.kq (hg:G id = some (.own (s.av v_ours v_peers v_shelf))) (h:s.ok) (l:bz v_ours /\ bz v_peers /\ bz v_shelf):lq T G me (.ptr id [7] 7) = some (.int .i64 s.rem):=ld1 hg (StM.szl h l) rfl rfl cA rfl
theorem St.mi (hg:G id = some (.own (s.av v_ours v_peers v_shelf))) (h:s.ok) (l:bz v_ours /\ bz v_peers /\ bz v_shelf):lq T G me (.ptr id [8] 8) = some (.int .i64 s.ack):=ld1 hg (StM.szl h l) rfl rfl cA rfl
theorem St.Lh (hg:G id = some (.own (s.av v_ours v_peers v_shelf))) (h:s.ok) (l:bz v_ours /\ bz v_peers /\ bz v_shelf):lq T G bG (.ptr id [9] 9) = some (bR s.atA s.atB):=ld1 hg (StM.szl h l) rfl rfl fR rfl
theorem St.KN (hg:G id = some (.own (s.av v_ours v_peers v_shelf))) (h:s.ok) (l:bz v_ours /\ bz v_peers /\ bz v_shelf):lq T G au (.ptr id [9,0] 9) = some (.int .i64 s.atA):=ld2 hg (StM.szl h l) rfl rfl (ss2:=[1,1]) rfl rfl rfl rfl hO rfl
theorem St.rf (hg:G id = some (.own (s.av v_ours v_peers v_shelf))) (h:s.ok) (l:bz v_ours /\ bz v_peers /\ bz v_shelf):lq T G au (.ptr id [9,1] 10) = some (.int .i64 s.atB):=ld2 hg (StM.szl h l) rfl rfl (ss2:=[1,1]) rfl rfl rfl rfl hO rfl
theorem St.BL (hg:G id = some (.own (s.av v_ours v_peers v_shelf))) (h:s.ok) (l:bz v_ours /\ bz v_peers /\ bz v_shelf):lq T G bG (.ptr id [10] 11) = some (bR s.sgnA s.sgnB):=ld1 hg (StM.szl h l) rfl rfl fR rfl
theorem St.BK (hg:G id = some (.own (s.av v_ours v_peers v_shelf))) (h:s.ok) (l:bz v_ours /\ bz v_peers /\ bz v_shelf):lq T G au (.ptr id [10,0] 11) = some (.int .i64 s.sgnA):=ld2 hg (StM.szl h l) rfl rfl (ss2:=[1,1]) rfl rfl rfl rfl hO rfl
theorem St.Mz (hg:G id = some (.own (s.av v_ours v_peers v_shelf))) (h:s.ok) (l:bz v_ours /\ bz v_peers /\ bz v_shelf):lq T G bG (.ptr id [11] 13) = some (bR s.heldA s.heldB):=ld1 hg (StM.szl h l) rfl rfl fR rfl
theorem St.r7 (hg:G id = some (.own (s.av v_ours v_peers v_shelf))) (h:s.ok) (l:bz v_ours /\ bz v_peers /\ bz v_shelf):lq T G au (.ptr id [11,0] 13) = some (.int .i64 s.heldA):=ld2 hg (StM.szl h l) rfl rfl (ss2:=[1,1]) rfl rfl rfl rfl hO rfl
theorem St.Iw (hg:G id = some (.own (s.av v_ours v_peers v_shelf))) (h:s.ok) (l:bz v_ours /\ bz v_peers /\ bz v_shelf):lq T G au (.ptr id [11,1] 14) = some (.int .i64 s.heldB):=ld2 hg (StM.szl h l) rfl rfl (ss2:=[1,1]) rfl rfl rfl rfl hO rfl
theorem St.GC (hg:G id = some (.own (s.av v_ours v_peers v_shelf))) (h:s.ok) (l:bz v_ours /\ bz v_peers /\ bz v_shelf):lq T G ey (.ptr id [12] 15) = some (.bool s.behind):=ld1 hg (StM.szl h l) rfl rfl kC rfl
theorem St.It (hg:G id = some (.own (s.av v_ours v_peers v_shelf))) (h:s.ok) (l:bz v_ours /\ bz v_peers /\ bz v_shelf):lq T G cL (.ptr id [13] 16) = some (mj s.ptsA s.ptsB):=ld1 hg (StM.szl h l) rfl rfl lg (rk h.ptsA h.ptsB)
theorem St.uS (hg:G id = some (.own (s.av v_ours v_peers v_shelf))) (h:s.ok) (l:bz v_ours /\ bz v_peers /\ bz v_shelf):lq T G aj (.ptr id [13,0] 16) = some (.agg (s.ptsA.map u8v)):=ld2 hg (StM.szl h l) rfl rfl (ss2:=[32,32]) (by simp [Esc.sz,szh h.ptsA,szh h.ptsB]) rfl rfl rfl cd (gu h.ptsA)
theorem St.xR (hg:G id = some (.own (s.av v_ours v_peers v_shelf))) (h:s.ok) (l:bz v_ours /\ bz v_peers /\ bz v_shelf):lq T G aj (.ptr id [13,1] 48) = some (.agg (s.ptsB.map u8v)):=ld2 hg (StM.szl h l) rfl rfl (ss2:=[32,32]) (by simp [Esc.sz,szh h.ptsA,szh h.ptsB]) rfl rfl rfl cd (gu h.ptsB)
theorem St.Is (hg:G id = some (.own (s.av v_ours v_peers v_shelf))) (h:s.ok) (l:bz v_ours /\ bz v_peers /\ bz v_shelf):lq T G aj (.ptr id [14] 80) = some (.agg (s.sig.map u8v)):=ld1 hg (StM.szl h l) rfl rfl cd (gu h.sig)
theorem St.r6 (hg:G id = some (.own (s.av v_ours v_peers v_shelf))) (h:s.ok) (l:bz v_ours /\ bz v_peers /\ bz v_shelf):lq T G bu (.ptr id [15] 112) = some (v_shelf):=ld1 hg (StM.szl h l) rfl rfl iL (jg l.2.2 rfl)
theorem St.GA (hg:G id = some (.own (s.av v_ours v_peers v_shelf))) (h:s.ok) (l:bz v_ours /\ bz v_peers /\ bz v_shelf):lq T G au (.ptr id [16] 113) = some (.int .i64 s.failed):=ld1 hg (StM.szl h l) rfl rfl hO rfl
theorem St.GB (hg:G id = some (.own (s.av v_ours v_peers v_shelf))) (h:s.ok) (l:bz v_ours /\ bz v_peers /\ bz v_shelf):lq T G me (.ptr id [17] 114) = some (.int .i64 s.closed):=ld1 hg (StM.szl h l) rfl rfl cA rfl
theorem St.ld (hg:G id = some (.own (s.av v_ours v_peers v_shelf))) (h:s.ok) (l:bz v_ours /\ bz v_peers /\ bz v_shelf):lq T G aJ (.ptr id [] 0) = some (s.av v_ours v_peers v_shelf):=cJ lE hg (StM.fits h l)
theorem St.sE (hs:Sp F0 G0 ps G) (hi:ps[i]? = some (ar id (s.av v_ours v_peers v_shelf))) (h:s.ok) (l:bz v_ours /\ bz v_peers /\ bz v_shelf) {x:ag} (hx:bz x) (hK:∀ G',Sp F0 G0 (ps.set i (ar id (s.av x v_peers v_shelf))) G' -> K G'):wg (ax T G ak (.ptr id [4] 4) x) K :=
 fK (st1 (ar.own hs hi) (StM.szl h l) rfl rfl cn (jg hx rfl) (by rw [l.1.1,hx.1]) hx.2.2) (hK _ (Sp.setRow hs hi _))
theorem St.uz (hs:Sp F0 G0 ps G) (hi:ps[i]? = some (ar id (s.av v_ours v_peers v_shelf))) (h:s.ok) (l:bz v_ours /\ bz v_peers /\ bz v_shelf) {x:ag} (hx:bz x) (hK:∀ G',Sp F0 G0 (ps.set i (ar id (s.av v_ours x v_shelf))) G' -> K G'):wg (ax T G ak (.ptr id [5] 5) x) K :=
 fK (st1 (ar.own hs hi) (StM.szl h l) rfl rfl cn (jg hx rfl) (by rw [l.2.1.1,hx.1]) hx.2.2) (hK _ (Sp.setRow hs hi _))
theorem St.KF (hs:Sp F0 G0 ps G) (hi:ps[i]? = some (ar id (s.av v_ours v_peers v_shelf))) (h:s.ok) (l:bz v_ours /\ bz v_peers /\ bz v_shelf) (x:Int) (hK:∀ G',Sp F0 G0 (ps.set i (ar id (({ s with loc:=x }:StM).av v_ours v_peers v_shelf))) G' -> K G'):wg (ax T G me (.ptr id [6] 6) (.int .i64 x)) K :=
 fK (st1 (ar.own hs hi) (StM.szl h l) rfl rfl cA rfl rfl rfl) (hK _ (Sp.setRow hs hi _))
theorem St.KE (hs:Sp F0 G0 ps G) (hi:ps[i]? = some (ar id (s.av v_ours v_peers v_shelf))) (h:s.ok) (l:bz v_ours /\ bz v_peers /\ bz v_shelf) (x:Int) (hK:∀ G',Sp F0 G0 (ps.set i (ar id (({ s with rem:=x }:StM).av v_ours v_peers v_shelf))) G' -> K G'):wg (ax T G me (.ptr id [7] 7) (.int .i64 x)) K :=
 fK (st1 (ar.own hs hi) (StM.szl h l) rfl rfl cA rfl rfl rfl) (hK _ (Sp.setRow hs hi _))
theorem St.KG (hs:Sp F0 G0 ps G) (hi:ps[i]? = some (ar id (s.av v_ours v_peers v_shelf))) (h:s.ok) (l:bz v_ours /\ bz v_peers /\ bz v_shelf) (x:Int) (hK:∀ G',Sp F0 G0 (ps.set i (ar id (({ s with ack:=x }:StM).av v_ours v_peers v_shelf))) G' -> K G'):wg (ax T G me (.ptr id [8] 8) (.int .i64 x)) K :=
 fK (st1 (ar.own hs hi) (StM.szl h l) rfl rfl cA rfl rfl rfl) (hK _ (Sp.setRow hs hi _))
theorem St.K7 (hs:Sp F0 G0 ps G) (hi:ps[i]? = some (ar id (s.av v_ours v_peers v_shelf))) (h:s.ok) (l:bz v_ours /\ bz v_peers /\ bz v_shelf) (x y:Int) (hK:∀ G',Sp F0 G0 (ps.set i (ar id (({ s with atA:=x,atB:=y }:StM).av v_ours v_peers v_shelf))) G' -> K G'):wg (ax T G bG (.ptr id [9] 9) (bR x y)) K :=
 fK (st1 (ar.own hs hi) (StM.szl h l) rfl rfl fR rfl rfl rfl) (hK _ (Sp.setRow hs hi _))
theorem St.KD (hs:Sp F0 G0 ps G) (hi:ps[i]? = some (ar id (s.av v_ours v_peers v_shelf))) (h:s.ok) (l:bz v_ours /\ bz v_peers /\ bz v_shelf) (x y:Int) (hK:∀ G',Sp F0 G0 (ps.set i (ar id (({ s with sgnA:=x,sgnB:=y }:StM).av v_ours v_peers v_shelf))) G' -> K G'):wg (ax T G bG (.ptr id [10] 11) (bR x y)) K :=
 fK (st1 (ar.own hs hi) (StM.szl h l) rfl rfl fR rfl rfl rfl) (hK _ (Sp.setRow hs hi _))
theorem St.Jw (hs:Sp F0 G0 ps G) (hi:ps[i]? = some (ar id (s.av v_ours v_peers v_shelf))) (h:s.ok) (l:bz v_ours /\ bz v_peers /\ bz v_shelf) (x y:Int) (hK:∀ G',Sp F0 G0 (ps.set i (ar id (({ s with heldA:=x,heldB:=y }:StM).av v_ours v_peers v_shelf))) G' -> K G'):wg (ax T G bG (.ptr id [11] 13) (bR x y)) K :=
 fK (st1 (ar.own hs hi) (StM.szl h l) rfl rfl fR rfl rfl rfl) (hK _ (Sp.setRow hs hi _))
theorem St.Ae (hs:Sp F0 G0 ps G) (hi:ps[i]? = some (ar id (s.av v_ours v_peers v_shelf))) (h:s.ok) (l:bz v_ours /\ bz v_peers /\ bz v_shelf) (x:Bool) (hK:∀ G',Sp F0 G0 (ps.set i (ar id (({ s with behind:=x }:StM).av v_ours v_peers v_shelf))) G' -> K G'):wg (ax T G ey (.ptr id [12] 15) (.bool x)) K :=
 fK (st1 (ar.own hs hi) (StM.szl h l) rfl rfl kC rfl rfl rfl) (hK _ (Sp.setRow hs hi _))
theorem St.HO (hs:Sp F0 G0 ps G) (hi:ps[i]? = some (ar id (s.av v_ours v_peers v_shelf))) (h:s.ok) (l:bz v_ours /\ bz v_peers /\ bz v_shelf) {x y:List UInt8} (hx:x.length = 32) (hy:y.length = 32) (hK:∀ G',Sp F0 G0 (ps.set i (ar id (({ s with ptsA:=x,ptsB:=y }:StM).av v_ours v_peers v_shelf))) G' -> K G'):wg (ax T G cL (.ptr id [13] 16) (mj x y)) K :=
 fK (st1 (ar.own hs hi) (StM.szl h l) rfl rfl lg (rk hx hy) (by simp [mj,Esc.sz,szs,szh hx,szh hy,szh h.ptsA,szh h.ptsB]) (by simp [mj,Esc.okv,kT,jx])) (hK _ (Sp.setRow hs hi _))
theorem St.HN (hs:Sp F0 G0 ps G) (hi:ps[i]? = some (ar id (s.av v_ours v_peers v_shelf))) (h:s.ok) (l:bz v_ours /\ bz v_peers /\ bz v_shelf) {x:List UInt8} (hx:x.length = 32) (hK:∀ G',Sp F0 G0 (ps.set i (ar id (({ s with sig:=x }:StM).av v_ours v_peers v_shelf))) G' -> K G'):wg (ax T G aj (.ptr id [14] 80) (.agg (x.map u8v))) K :=
 fK (st1 (ar.own hs hi) (StM.szl h l) rfl rfl cd (gu hx) (by simp [Esc.sz,szh hx,szh h.sig]) (by simp [Esc.okv,jx])) (hK _ (Sp.setRow hs hi _))
theorem St.yv (hs:Sp F0 G0 ps G) (hi:ps[i]? = some (ar id (s.av v_ours v_peers v_shelf))) (h:s.ok) (l:bz v_ours /\ bz v_peers /\ bz v_shelf) {x:ag} (hx:bz x) (hK:∀ G',Sp F0 G0 (ps.set i (ar id (s.av v_ours v_peers x))) G' -> K G'):wg (ax T G bu (.ptr id [15] 112) x) K :=
 fK (st1 (ar.own hs hi) (StM.szl h l) rfl rfl iL (jg hx rfl) (by rw [l.2.2.1,hx.1]) hx.2.2) (hK _ (Sp.setRow hs hi _))
theorem St.st (hs:Sp F0 G0 ps G) (hi:ps[i]? = some (ar id (s.av v_ours v_peers v_shelf))) (h:s.ok) (l:bz v_ours /\ bz v_peers /\ bz v_shelf) {s':StM} {w_ours w_peers w_shelf:ag} (h':s'.ok) (m:bz w_ours /\ bz w_peers /\ bz w_shelf) (hK:∀ G',Sp F0 G0 (ps.set i (ar id (s'.av w_ours w_peers w_shelf))) G' -> K G'):wg (ax T G aJ (.ptr id [] 0) (s'.av w_ours w_peers w_shelf)) K :=
 fK (il lE (ar.own hs hi) (StM.fits h' m) (by rw [StM.sz h l,StM.sz h' m]) (StM.okv m)) (hK _ (Sp.setRow hs hi _))
theorem St.nw {s':StM} {w_ours w_peers w_shelf:ag} (hs:Sp F0 G0 ps G) (h':s'.ok) (m:bz w_ours /\ bz w_peers /\ bz w_shelf) {K:AId -> ah -> Prop} (hK:∀ i G',Sp F0 G0 (ar i (s'.av w_ours w_peers w_shelf) :: ps) G' -> K i G'):br G (.own iT) fun i G2=>wg (ax T G2 aJ (.ptr i [] 0) (s'.av w_ours w_peers w_shelf)) fun G3=>K i G3 :=
 jQ hs lE (StM.fits h' m) (by rw [StM.sz h' m]; rfl) (StM.okv m) hK
end
end Go.Esc.M
namespace Go.Esc.M
open Go Go.Esc
structure RcM where
 kind:Int
 upd:aK
 index:Int
 cntA:Int
 cntB:Int
 sig:List UInt8
 secret:List UInt8
 point:List UInt8
 code:Int
 deriving DecidableEq
def RcM.cs (s:RcM) (v_upds:ag):List ag:=[.int .i64 s.kind,s.upd.av,v_upds,.int .i64 s.index,.agg [.int .i64 s.cntA,.int .i64 s.cntB],.agg (s.sig.map u8v),.agg (s.secret.map u8v),.agg (s.point.map u8v),.int .i64 s.code]
def RcM.av (s:RcM) (v_upds:ag):ag:=.agg (s.cs v_upds)
structure RcM.ok (s:RcM):Prop where
 kind:I64 s.kind
 upd:s.upd.ok
 index:I64 s.index
 cntA:I64 s.cntA
 cntB:I64 s.cntB
 sig:s.sig.length = 32
 secret:s.secret.length = 32
 point:s.point.length = 32
 code:I64 s.code
theorem RcM.szl {s:RcM} {v_upds:ag} (h:s.ok) (l:bz v_upds):(s.cs v_upds).map Esc.sz = [1,36,1,1,2,32,32,32,1]:=by
 simp [RcM.cs,Esc.sz,szs,aK.sz h.upd,szh h.sig,szh h.secret,szh h.point,l.1]
theorem RcM.sz {s:RcM} {v_upds:ag} (h:s.ok) (l:bz v_upds):Esc.sz (s.av v_upds) = 138:=by
 have e:=RcM.szl h l
 rw [RcM.av,Esc.sz,qT,e]; rfl
theorem RcM.fits {s:RcM} {v_upds:ag} (h:s.ok) (l:bz v_upds):fa mQ (s.av v_upds) = true:=by
 have h1:=RcM.sz h l
 have h2:(s.av v_upds).isAgg = true:=rfl
 simp [fa,h1,h2,mQ,j4.isAgg]
theorem RcM.okv {s:RcM} {v_upds:ag} (l:bz v_upds):Esc.okv (s.av v_upds) = true:=by
 simp [RcM.av,RcM.cs,Esc.okv,kT,jx,l.2.2,aK.okv _]
section
variable {F0:List AId} {G0 G:ah} {ps:List LP} {i:Nat} {id:AId} {s:RcM} {K:ah -> Prop} {v_upds:ag}
theorem Rc.uT (hg:G id = some (.own (s.av v_upds))) (h:s.ok) (l:bz v_upds):lq T G au (.ptr id [0] 0) = some (.int .i64 s.kind):=ld1 hg (RcM.szl h l) rfl rfl hO rfl
theorem Rc.Ir (hg:G id = some (.own (s.av v_upds))) (h:s.ok) (l:bz v_upds):lq T G aI (.ptr id [1] 1) = some (s.upd.av):=ld1 hg (RcM.szl h l) rfl rfl fC (aK.fits h.upd)
theorem Rc.FB (hg:G id = some (.own (s.av v_upds))) (h:s.ok) (l:bz v_upds):lq T G ak (.ptr id [2] 37) = some (v_upds):=ld1 hg (RcM.szl h l) rfl rfl cn (jg l rfl)
theorem Rc.mS (hg:G id = some (.own (s.av v_upds))) (h:s.ok) (l:bz v_upds):lq T G me (.ptr id [3] 38) = some (.int .i64 s.index):=ld1 hg (RcM.szl h l) rfl rfl cA rfl
theorem Rc.KM (hg:G id = some (.own (s.av v_upds))) (h:s.ok) (l:bz v_upds):lq T G bG (.ptr id [4] 39) = some (bR s.cntA s.cntB):=ld1 hg (RcM.szl h l) rfl rfl fR rfl
theorem Rc.BN (hg:G id = some (.own (s.av v_upds))) (h:s.ok) (l:bz v_upds):lq T G au (.ptr id [4,0] 39) = some (.int .i64 s.cntA):=ld2 hg (RcM.szl h l) rfl rfl (ss2:=[1,1]) rfl rfl rfl rfl hO rfl
theorem Rc.JM (hg:G id = some (.own (s.av v_upds))) (h:s.ok) (l:bz v_upds):lq T G au (.ptr id [4,1] 40) = some (.int .i64 s.cntB):=ld2 hg (RcM.szl h l) rfl rfl (ss2:=[1,1]) rfl rfl rfl rfl hO rfl
theorem Rc.Is (hg:G id = some (.own (s.av v_upds))) (h:s.ok) (l:bz v_upds):lq T G aj (.ptr id [5] 41) = some (.agg (s.sig.map u8v)):=ld1 hg (RcM.szl h l) rfl rfl cd (gu h.sig)
theorem Rc.Gz (hg:G id = some (.own (s.av v_upds))) (h:s.ok) (l:bz v_upds):lq T G aj (.ptr id [6] 73) = some (.agg (s.secret.map u8v)):=ld1 hg (RcM.szl h l) rfl rfl cd (gu h.secret)
theorem Rc.Iu (hg:G id = some (.own (s.av v_upds))) (h:s.ok) (l:bz v_upds):lq T G aj (.ptr id [7] 105) = some (.agg (s.point.map u8v)):=ld1 hg (RcM.szl h l) rfl rfl cd (gu h.point)
theorem Rc.ld (hg:G id = some (.own (s.av v_upds))) (h:s.ok) (l:bz v_upds):lq T G aD (.ptr id [] 0) = some (s.av v_upds):=cJ oV hg (RcM.fits h l)
theorem Rc.HN (hs:Sp F0 G0 ps G) (hi:ps[i]? = some (ar id (s.av v_upds))) (h:s.ok) (l:bz v_upds) {x:List UInt8} (hx:x.length = 32) (hK:∀ G',Sp F0 G0 (ps.set i (ar id (({ s with sig:=x }:RcM).av v_upds))) G' -> K G'):wg (ax T G aj (.ptr id [5] 41) (.agg (x.map u8v))) K :=
 fK (st1 (ar.own hs hi) (RcM.szl h l) rfl rfl cd (gu hx) (by simp [Esc.sz,szh hx,szh h.sig]) (by simp [Esc.okv,jx])) (hK _ (Sp.setRow hs hi _))
theorem Rc.st (hs:Sp F0 G0 ps G) (hi:ps[i]? = some (ar id (s.av v_upds))) (h:s.ok) (l:bz v_upds) {s':RcM} {w_upds:ag} (h':s'.ok) (m:bz w_upds) (hK:∀ G',Sp F0 G0 (ps.set i (ar id (s'.av w_upds))) G' -> K G'):wg (ax T G aD (.ptr id [] 0) (s'.av w_upds)) K :=
 fK (il oV (ar.own hs hi) (RcM.fits h' m) (by rw [RcM.sz h l,RcM.sz h' m]) (RcM.okv m)) (hK _ (Sp.setRow hs hi _))
theorem Rc.nw {s':RcM} {w_upds:ag} (hs:Sp F0 G0 ps G) (h':s'.ok) (m:bz w_upds) {K:AId -> ah -> Prop} (hK:∀ i G',Sp F0 G0 (ar i (s'.av w_upds) :: ps) G' -> K i G'):br G (.own iY) fun i G2=>wg (ax T G2 aD (.ptr i [] 0) (s'.av w_upds)) fun G3=>K i G3 :=
 jQ hs oV (RcM.fits h' m) (by rw [RcM.sz h' m]; rfl) (RcM.okv m) hK
end
end Go.Esc.M
namespace Go.Esc.M
open Go Go.Esc
structure CfM where
 side:Int
 cap:Int
 ours:Int
 seed:List UInt8
 key:List UInt8
 pkey:List UInt8
 ptsA:List UInt8
 ptsB:List UInt8
 seg:Int
def CfM.cs (s:CfM):List ag:=[.int .i64 s.side,.int .i64 s.cap,.int .i64 s.ours,.agg (s.seed.map u8v),.agg (s.key.map u8v),.agg (s.pkey.map u8v),.agg [.agg (s.ptsA.map u8v),.agg (s.ptsB.map u8v)],.int .i64 s.seg]
def CfM.av (s:CfM):ag:=.agg (s.cs )
structure CfM.ok (s:CfM):Prop where
 side:I64 s.side
 cap:I64 s.cap
 ours:I64 s.ours
 seed:s.seed.length = 32
 key:s.key.length = 32
 pkey:s.pkey.length = 32
 ptsA:s.ptsA.length = 32
 ptsB:s.ptsB.length = 32
 seg:I64 s.seg
theorem CfM.szl {s:CfM} (h:s.ok):(s.cs ).map Esc.sz = [1,1,1,32,32,32,64,1]:=by
 simp [CfM.cs,Esc.sz,szs,szh h.seed,szh h.key,szh h.pkey,szh h.ptsA,szh h.ptsB]
theorem CfM.sz {s:CfM} (h:s.ok):Esc.sz (s.av ) = 164:=by
 have e:=CfM.szl h
 rw [CfM.av,Esc.sz,qT,e]; rfl
theorem CfM.fits {s:CfM} (h:s.ok):fa lN (s.av ) = true:=by
 have h1:=CfM.sz h
 have h2:(s.av ).isAgg = true:=rfl
 simp [fa,h1,h2,lN,j4.isAgg]
theorem CfM.okv {s:CfM}:Esc.okv (s.av ) = true:=by
 simp [CfM.av,CfM.cs,Esc.okv,kT,jx]
section
variable {F0:List AId} {G0 G:ah} {ps:List LP} {i:Nat} {id:AId} {s:CfM} {K:ah -> Prop}
theorem Cf.m8 (hg:G id = some (.own (s.av ))) (h:s.ok):lq T G au (.ptr id [0] 0) = some (.int .i64 s.side):=ld1 hg (CfM.szl h ) rfl rfl hO rfl
theorem Cf.nI (hg:G id = some (.own (s.av ))) (h:s.ok):lq T G me (.ptr id [1] 1) = some (.int .i64 s.cap):=ld1 hg (CfM.szl h ) rfl rfl cA rfl
theorem Cf.gG (hg:G id = some (.own (s.av ))) (h:s.ok):lq T G me (.ptr id [2] 2) = some (.int .i64 s.ours):=ld1 hg (CfM.szl h ) rfl rfl cA rfl
theorem Cf.pT (hg:G id = some (.own (s.av ))) (h:s.ok):lq T G aj (.ptr id [3] 3) = some (.agg (s.seed.map u8v)):=ld1 hg (CfM.szl h ) rfl rfl cd (gu h.seed)
theorem Cf.Iv (hg:G id = some (.own (s.av ))) (h:s.ok):lq T G aj (.ptr id [4] 35) = some (.agg (s.key.map u8v)):=ld1 hg (CfM.szl h ) rfl rfl cd (gu h.key)
theorem Cf.JL (hg:G id = some (.own (s.av ))) (h:s.ok):lq T G aj (.ptr id [5] 67) = some (.agg (s.pkey.map u8v)):=ld1 hg (CfM.szl h ) rfl rfl cd (gu h.pkey)
theorem Cf.It (hg:G id = some (.own (s.av ))) (h:s.ok):lq T G cL (.ptr id [6] 99) = some (mj s.ptsA s.ptsB):=ld1 hg (CfM.szl h ) rfl rfl lg (rk h.ptsA h.ptsB)
theorem Cf.uS (hg:G id = some (.own (s.av ))) (h:s.ok):lq T G aj (.ptr id [6,0] 99) = some (.agg (s.ptsA.map u8v)):=ld2 hg (CfM.szl h ) rfl rfl (ss2:=[32,32]) (by simp [Esc.sz,szh h.ptsA,szh h.ptsB]) rfl rfl rfl cd (gu h.ptsA)
theorem Cf.xR (hg:G id = some (.own (s.av ))) (h:s.ok):lq T G aj (.ptr id [6,1] 131) = some (.agg (s.ptsB.map u8v)):=ld2 hg (CfM.szl h ) rfl rfl (ss2:=[32,32]) (by simp [Esc.sz,szh h.ptsA,szh h.ptsB]) rfl rfl rfl cd (gu h.ptsB)
theorem Cf.ld (hg:G id = some (.own (s.av ))) (h:s.ok):lq T G cl (.ptr id [] 0) = some (s.av ):=cJ j9 hg (CfM.fits h )
theorem Cf.sE (hs:Sp F0 G0 ps G) (hi:ps[i]? = some (ar id (s.av ))) (h:s.ok) (x:Int) (hK:∀ G',Sp F0 G0 (ps.set i (ar id (({ s with ours:=x }:CfM).av ))) G' -> K G'):wg (ax T G me (.ptr id [2] 2) (.int .i64 x)) K :=
 fK (st1 (ar.own hs hi) (CfM.szl h ) rfl rfl cA rfl rfl rfl) (hK _ (Sp.setRow hs hi _))
theorem Cf.HO (hs:Sp F0 G0 ps G) (hi:ps[i]? = some (ar id (s.av ))) (h:s.ok) {x y:List UInt8} (hx:x.length = 32) (hy:y.length = 32) (hK:∀ G',Sp F0 G0 (ps.set i (ar id (({ s with ptsA:=x,ptsB:=y }:CfM).av ))) G' -> K G'):wg (ax T G cL (.ptr id [6] 99) (mj x y)) K :=
 fK (st1 (ar.own hs hi) (CfM.szl h ) rfl rfl lg (rk hx hy) (by simp [mj,Esc.sz,szs,szh hx,szh hy,szh h.ptsA,szh h.ptsB]) (by simp [mj,Esc.okv,kT,jx])) (hK _ (Sp.setRow hs hi _))
theorem Cf.st (hs:Sp F0 G0 ps G) (hi:ps[i]? = some (ar id (s.av ))) (h:s.ok) {s':CfM} (h':s'.ok) (hK:∀ G',Sp F0 G0 (ps.set i (ar id (s'.av ))) G' -> K G'):wg (ax T G cl (.ptr id [] 0) (s'.av )) K :=
 fK (il j9 (ar.own hs hi) (CfM.fits h' ) (by rw [CfM.sz h ,CfM.sz h' ]) (CfM.okv )) (hK _ (Sp.setRow hs hi _))
theorem Cf.nw {s':CfM} (hs:Sp F0 G0 ps G) (h':s'.ok) {K:AId -> ah -> Prop} (hK:∀ i G',Sp F0 G0 (ar i (s'.av ) :: ps) G' -> K i G'):br G (.own nz) fun i G2=>wg (ax T G2 cl (.ptr i [] 0) (s'.av )) fun G3=>K i G3 :=
 jQ hs j9 (CfM.fits h' ) (by rw [CfM.sz h' ]; rfl) (CfM.okv ) hK
end
end Go.Esc.M
namespace Go.Esc.M
open Go Go.Esc
structure DlM where
 cap:Int
 ours:Int
 seedsA:List UInt8
 seedsB:List UInt8
 keysA:List UInt8
 keysB:List UInt8
def DlM.cs (s:DlM):List ag:=[.int .i64 s.cap,.int .i64 s.ours,.agg [.agg (s.seedsA.map u8v),.agg (s.seedsB.map u8v)],.agg [.agg (s.keysA.map u8v),.agg (s.keysB.map u8v)]]
def DlM.av (s:DlM):ag:=.agg (s.cs )
structure DlM.ok (s:DlM):Prop where
 cap:I64 s.cap
 ours:I64 s.ours
 seedsA:s.seedsA.length = 32
 seedsB:s.seedsB.length = 32
 keysA:s.keysA.length = 32
 keysB:s.keysB.length = 32
theorem DlM.szl {s:DlM} (h:s.ok):(s.cs ).map Esc.sz = [1,1,64,64]:=by
 simp [DlM.cs,Esc.sz,szs,szh h.seedsA,szh h.seedsB,szh h.keysA,szh h.keysB]
theorem DlM.sz {s:DlM} (h:s.ok):Esc.sz (s.av ) = 130:=by
 have e:=DlM.szl h
 rw [DlM.av,Esc.sz,qT,e]; rfl
theorem DlM.fits {s:DlM} (h:s.ok):fa j2 (s.av ) = true:=by
 have h1:=DlM.sz h
 have h2:(s.av ).isAgg = true:=rfl
 simp [fa,h1,h2,j2,j4.isAgg]
theorem DlM.okv {s:DlM}:Esc.okv (s.av ) = true:=by
 simp [DlM.av,DlM.cs,Esc.okv,kT,jx]
section
variable {F0:List AId} {G0 G:ah} {ps:List LP} {i:Nat} {id:AId} {s:DlM} {K:ah -> Prop}
theorem Dl.nI (hg:G id = some (.own (s.av ))) (h:s.ok):lq T G me (.ptr id [0] 0) = some (.int .i64 s.cap):=ld1 hg (DlM.szl h ) rfl rfl cA rfl
theorem Dl.gG (hg:G id = some (.own (s.av ))) (h:s.ok):lq T G me (.ptr id [1] 1) = some (.int .i64 s.ours):=ld1 hg (DlM.szl h ) rfl rfl cA rfl
theorem Dl.o6 (hg:G id = some (.own (s.av ))) (h:s.ok):lq T G aj (.ptr id [2,0] 2) = some (.agg (s.seedsA.map u8v)):=ld2 hg (DlM.szl h ) rfl rfl (ss2:=[32,32]) (by simp [Esc.sz,szh h.seedsA,szh h.seedsB]) rfl rfl rfl cd (gu h.seedsA)
theorem Dl.o5 (hg:G id = some (.own (s.av ))) (h:s.ok):lq T G aj (.ptr id [2,1] 34) = some (.agg (s.seedsB.map u8v)):=ld2 hg (DlM.szl h ) rfl rfl (ss2:=[32,32]) (by simp [Esc.sz,szh h.seedsA,szh h.seedsB]) rfl rfl rfl cd (gu h.seedsB)
theorem Dl.qx (hg:G id = some (.own (s.av ))) (h:s.ok):lq T G aj (.ptr id [3,0] 66) = some (.agg (s.keysA.map u8v)):=ld2 hg (DlM.szl h ) rfl rfl (ss2:=[32,32]) (by simp [Esc.sz,szh h.keysA,szh h.keysB]) rfl rfl rfl cd (gu h.keysA)
theorem Dl.qw (hg:G id = some (.own (s.av ))) (h:s.ok):lq T G aj (.ptr id [3,1] 98) = some (.agg (s.keysB.map u8v)):=ld2 hg (DlM.szl h ) rfl rfl (ss2:=[32,32]) (by simp [Esc.sz,szh h.keysA,szh h.keysB]) rfl rfl rfl cd (gu h.keysB)
theorem Dl.ld (hg:G id = some (.own (s.av ))) (h:s.ok):lq T G dj (.ptr id [] 0) = some (s.av ):=cJ lJ hg (DlM.fits h )
theorem Dl.sE (hs:Sp F0 G0 ps G) (hi:ps[i]? = some (ar id (s.av ))) (h:s.ok) (x:Int) (hK:∀ G',Sp F0 G0 (ps.set i (ar id (({ s with ours:=x }:DlM).av ))) G' -> K G'):wg (ax T G me (.ptr id [1] 1) (.int .i64 x)) K :=
 fK (st1 (ar.own hs hi) (DlM.szl h ) rfl rfl cA rfl rfl rfl) (hK _ (Sp.setRow hs hi _))
theorem Dl.st (hs:Sp F0 G0 ps G) (hi:ps[i]? = some (ar id (s.av ))) (h:s.ok) {s':DlM} (h':s'.ok) (hK:∀ G',Sp F0 G0 (ps.set i (ar id (s'.av ))) G' -> K G'):wg (ax T G dj (.ptr id [] 0) (s'.av )) K :=
 fK (il lJ (ar.own hs hi) (DlM.fits h' ) (by rw [DlM.sz h ,DlM.sz h' ]) (DlM.okv )) (hK _ (Sp.setRow hs hi _))
theorem Dl.nw {s':DlM} (hs:Sp F0 G0 ps G) (h':s'.ok) {K:AId -> ah -> Prop} (hK:∀ i G',Sp F0 G0 (ar i (s'.av ) :: ps) G' -> K i G'):br G (.own pc) fun i G2=>wg (ax T G2 dj (.ptr i [] 0) (s'.av )) fun G3=>K i G3 :=
 jQ hs lJ (DlM.fits h' ) (by rw [DlM.sz h' ]; rfl) (DlM.okv ) hK
end
end Go.Esc.M
namespace Go.Esc.M
open Go Go.Esc
structure BeM where
 index:Int
 next:Int
 other:Bool
 secret:List UInt8
 mine:Bool
 kind:Int
def BeM.cs (s:BeM):List ag:=[.int .i64 s.index,.int .i64 s.next,.bool s.other,.agg (s.secret.map u8v),.bool s.mine,.int .i64 s.kind]
def BeM.av (s:BeM):ag:=.agg (s.cs )
structure BeM.ok (s:BeM):Prop where
 index:I64 s.index
 next:I64 s.next
 secret:s.secret.length = 32
 kind:I64 s.kind
theorem BeM.szl {s:BeM} (h:s.ok):(s.cs ).map Esc.sz = [1,1,1,32,1,1]:=by
 simp [BeM.cs,Esc.sz,szs,szh h.secret]
theorem BeM.sz {s:BeM} (h:s.ok):Esc.sz (s.av ) = 37:=by
 have e:=BeM.szl h
 rw [BeM.av,Esc.sz,qT,e]; rfl
theorem BeM.fits {s:BeM} (h:s.ok):fa Mc (s.av ) = true:=by
 have h1:=BeM.sz h
 have h2:(s.av ).isAgg = true:=rfl
 simp [fa,h1,h2,Mc,j4.isAgg]
theorem BeM.okv {s:BeM}:Esc.okv (s.av ) = true:=by
 simp [BeM.av,BeM.cs,Esc.okv,kT,jx]
section
variable {F0:List AId} {G0 G:ah} {ps:List LP} {i:Nat} {id:AId} {s:BeM} {K:ah -> Prop}
theorem Bq.mS (hg:G id = some (.own (s.av ))) (h:s.ok):lq T G me (.ptr id [0] 0) = some (.int .i64 s.index):=ld1 hg (BeM.szl h ) rfl rfl cA rfl
theorem Bq.ML (hg:G id = some (.own (s.av ))) (h:s.ok):lq T G me (.ptr id [1] 1) = some (.int .i64 s.next):=ld1 hg (BeM.szl h ) rfl rfl cA rfl
theorem Bq.MG (hg:G id = some (.own (s.av ))) (h:s.ok):lq T G ey (.ptr id [2] 2) = some (.bool s.other):=ld1 hg (BeM.szl h ) rfl rfl kC rfl
theorem Bq.Gz (hg:G id = some (.own (s.av ))) (h:s.ok):lq T G aj (.ptr id [3] 3) = some (.agg (s.secret.map u8v)):=ld1 hg (BeM.szl h ) rfl rfl cd (gu h.secret)
theorem Bq.MM (hg:G id = some (.own (s.av ))) (h:s.ok):lq T G ey (.ptr id [4] 35) = some (.bool s.mine):=ld1 hg (BeM.szl h ) rfl rfl kC rfl
theorem Bq.uT (hg:G id = some (.own (s.av ))) (h:s.ok):lq T G au (.ptr id [5] 36) = some (.int .i64 s.kind):=ld1 hg (BeM.szl h ) rfl rfl hO rfl
theorem Bq.ld (hg:G id = some (.own (s.av ))) (h:s.ok):lq T G L9 (.ptr id [] 0) = some (s.av ):=cJ Ma hg (BeM.fits h )
theorem Bq.st (hs:Sp F0 G0 ps G) (hi:ps[i]? = some (ar id (s.av ))) (h:s.ok) {s':BeM} (h':s'.ok) (hK:∀ G',Sp F0 G0 (ps.set i (ar id (s'.av ))) G' -> K G'):wg (ax T G L9 (.ptr id [] 0) (s'.av )) K :=
 fK (il Ma (ar.own hs hi) (BeM.fits h' ) (by rw [BeM.sz h ,BeM.sz h' ]) (BeM.okv )) (hK _ (Sp.setRow hs hi _))
theorem Bq.nw {s':BeM} (hs:Sp F0 G0 ps G) (h':s'.ok) {K:AId -> ah -> Prop} (hK:∀ i G',Sp F0 G0 (ar i (s'.av ) :: ps) G' -> K i G'):br G (.own Mg) fun i G2=>wg (ax T G2 L9 (.ptr i [] 0) (s'.av )) fun G3=>K i G3 :=
 jQ hs Ma (BeM.fits h' ) (by rw [BeM.sz h' ]; rfl) (BeM.okv ) hK
end
end Go.Esc.M
namespace Go.Esc.M
open Go Go.Esc
structure ik where
 kind:Int
 side:Bool
 amount:Int
 id:Int
 hash:List UInt8
 note:List UInt8
 index:Int
def ik.cs (s:ik):List ag:=[.int .i64 s.kind,.bool s.side,.int .i64 s.amount,.int .i64 s.id,.agg (s.hash.map u8v),.str s.note,.int .i64 s.index]
def ik.av (s:ik):ag:=.agg (s.cs )
structure ik.ok (s:ik):Prop where
 kind:I64 s.kind
 amount:I64 s.amount
 id:I64 s.id
 hash:s.hash.length = 32
 note:s.note.length ≤ 9223372036854775807
 index:I64 s.index
theorem ik.szl {s:ik} (h:s.ok):(s.cs ).map Esc.sz = [1,1,1,1,32,1,1]:=by
 simp [ik.cs,Esc.sz,szs,szh h.hash]
theorem ik.sz {s:ik} (h:s.ok):Esc.sz (s.av ) = 38:=by
 have e:=ik.szl h
 rw [ik.av,Esc.sz,qT,e]; rfl
theorem ik.fits {s:ik} (h:s.ok):fa jU (s.av ) = true:=by
 have h1:=ik.sz h
 have h2:(s.av ).isAgg = true:=rfl
 simp [fa,h1,h2,jU,j4.isAgg]
theorem ik.okv {s:ik}:Esc.okv (s.av ) = true:=by
 simp [ik.av,ik.cs,Esc.okv,kT,jx]
section
variable {F0:List AId} {G0 G:ah} {ps:List LP} {i:Nat} {id:AId} {s:ik} {K:ah -> Prop}
theorem Oq.uT (hg:G id = some (.own (s.av ))) (h:s.ok):lq T G au (.ptr id [0] 0) = some (.int .i64 s.kind):=ld1 hg (ik.szl h ) rfl rfl hO rfl
theorem Oq.m8 (hg:G id = some (.own (s.av ))) (h:s.ok):lq T G ey (.ptr id [1] 1) = some (.bool s.side):=ld1 hg (ik.szl h ) rfl rfl kC rfl
theorem Oq.GD (hg:G id = some (.own (s.av ))) (h:s.ok):lq T G me (.ptr id [2] 2) = some (.int .i64 s.amount):=ld1 hg (ik.szl h ) rfl rfl cA rfl
theorem Oq.Ki (hg:G id = some (.own (s.av ))) (h:s.ok):lq T G me (.ptr id [3] 3) = some (.int .i64 s.id):=ld1 hg (ik.szl h ) rfl rfl cA rfl
theorem Oq.BM (hg:G id = some (.own (s.av ))) (h:s.ok):lq T G aj (.ptr id [4] 4) = some (.agg (s.hash.map u8v)):=ld1 hg (ik.szl h ) rfl rfl cd (gu h.hash)
theorem Oq.FC (hg:G id = some (.own (s.av ))) (h:s.ok):lq T G bH (.ptr id [5] 36) = some (.str s.note):=ld1 hg (ik.szl h ) rfl rfl fZ rfl
theorem Oq.mS (hg:G id = some (.own (s.av ))) (h:s.ok):lq T G me (.ptr id [6] 37) = some (.int .i64 s.index):=ld1 hg (ik.szl h ) rfl rfl cA rfl
theorem Oq.ld (hg:G id = some (.own (s.av ))) (h:s.ok):lq T G gJ (.ptr id [] 0) = some (s.av ):=cJ jH hg (ik.fits h )
theorem Oq.st (hs:Sp F0 G0 ps G) (hi:ps[i]? = some (ar id (s.av ))) (h:s.ok) {s':ik} (h':s'.ok) (hK:∀ G',Sp F0 G0 (ps.set i (ar id (s'.av ))) G' -> K G'):wg (ax T G gJ (.ptr id [] 0) (s'.av )) K :=
 fK (il jH (ar.own hs hi) (ik.fits h' ) (by rw [ik.sz h ,ik.sz h' ]) (ik.okv )) (hK _ (Sp.setRow hs hi _))
theorem Oq.nw {s':ik} (hs:Sp F0 G0 ps G) (h':s'.ok) {K:AId -> ah -> Prop} (hK:∀ i G',Sp F0 G0 (ar i (s'.av ) :: ps) G' -> K i G'):br G (.own qf) fun i G2=>wg (ax T G2 gJ (.ptr i [] 0) (s'.av )) fun G3=>K i G3 :=
 jQ hs jH (ik.fits h' ) (by rw [ik.sz h' ]; rfl) (ik.okv ) hK
end
end Go.Esc.M
namespace Go.Esc.M
open Go Go.Esc
theorem kO {u:aK} (h:dC u = true):0 ≤ u.id /\ u.id < 2048 /\ ((u.kind = 1 /\ 1 ≤ u.amount /\ u.amount ≤ 1152921504606846976 /\ u.note = []) \/ (u.kind = 2 /\ u.amount = 0 /\ u.note = []) \/ (u.kind = 3 /\ u.amount = 0 /\ u.hash = h0 /\ u.note.length ≤ 64)):=by
 unfold dC C7 at h
 simp only [Bool.and_eq_true,decide_eq_true_eq] at h
 obtain ⟨h1,h2,h3⟩:=h
 refine ⟨h1,h2,?_⟩
 split at h3
 ·simp only [Bool.and_eq_true,decide_eq_true_eq] at h3
  rename_i hk
  exact .inl ⟨hk,h3.1,h3.2.1,h3.2.2⟩
 split at h3
 ·simp only [Bool.and_eq_true,decide_eq_true_eq] at h3
  rename_i hk
  exact .inr (.inl ⟨hk,h3.1,h3.2⟩)
 split at h3
 ·simp only [Bool.and_eq_true,decide_eq_true_eq] at h3
  rename_i hk
  exact .inr (.inr ⟨hk,h3.1,h3.2.1,h3.2.2⟩)
 ·cases h3
section
variable {F0:List AId} {G0 G:ah} {ps:List LP} {Q:ag -> ah -> Prop}
theorem Gi {i:AId} {u:aK} (h:u.ok) (hg:G i = some (.own u.av)):∃ x,fj T aj (.ptr i [3] 3) none none none = some x /\ fV 1 G x (u.hash.map u8v):=by
 have e1:T aj = some fE:=cd
 have e2:fE.desc = .array 32 cg:=rfl
 refine ⟨.slice i [3] 0 3 32 32,by simp [fj,e1,e2,dz,jh,j7,fY],.inl ⟨_,_,_,_,_,_,rfl,?_⟩⟩
 have hh:=h.hash
 have ha:kg G 1 i [3] 0 3 = some (u.hash.map u8v):=by
  simp [kg,mo,hg,kZ,aK.av,aK.cs,sub,szs,Esc.sz,ji]
 rw [fT,ha]
 simp [hh,List.take_of_length_le]
end
end Go.Esc.M
namespace Go.Esc.M
open Go Go.Esc
def okU (u:aK) (n:Nat):aK × Int × Int:=bif dC u then (u,(n:Int),0) else (aK.zero,0,120)
theorem LJ {k i a:Int} {h n:List UInt8} (hk:I64 k) (hi:I64 i) (ha:I64 a) (hh:h.length = 32) (hn:n.length ≤ 9223372036854775807):(⟨k,i,a,h,n⟩:aK).ok:=⟨hk,hi,ha,hh,hn⟩
theorem cD:I64 0:=⟨by decide,by decide⟩
theorem tk {b:List UInt8} {a n:Nat} {nn:Int} (hn:nn = (n:Int)) (ha:a ≤ b.length):takes (b.drop a,0) nn = if a + n ≤ b.length then (slice b a n,(b.drop (a + n),0)) else ([],([],2)):=by
 by_cases h:a + n ≤ b.length
 ·rw [if_pos h,HG hn h]
 ·rw [if_neg h,CC (by rw [List.length_drop]; omega)]
theorem DL:gy = aK.zero.av:=rfl
theorem ug:bk T aI [] = some aK.zero.av:=rfl
section
variable {F0:List AId} {G0 G:ah} {ps:List LP} {Q:ag -> ah -> Prop}
end
end Go.Esc.M
namespace Go.Esc.M
open Go Go.Esc
section
variable {F0:List AId} {G0 G:ah} {ps:List LP} {Q:ag -> ah -> Prop}
end
end Go.Esc.M
namespace Go.Esc.M
open Go Go.Esc
def vY (rm:Bool) (id:Int) (u:aK):Bool:=decide (u.id = id) && bif rm then decide (u.kind = 2) || decide (u.kind = 3) else decide (u.kind = 1)
def fW (rm:Bool) (id:Int) (l:List aK):Option aK:=l.find? (vY rm id)
def H8 (o:Option aK):ag:=.tuple [(o.getD aK.zero).av,.bool o.isSome]
def qD (l:List aK):Nat:=(l.filter (fun u=>decide (u.kind = 1))).length
theorem o7 {rm:Bool} {id:Int} {l:List aK} (h:∀ u ∈ l,u.ok):((fW rm id l).getD aK.zero).ok:=by
 cases hf:fW rm id l with
 | none=>exact aK.bD
 | some u=>exact h u (List.mem_of_find?_eq_some hf)
theorem EU {l:List aK} {j:Nat} {u:aK} (h:l[j]? = some u):qD (l.take (j + 1)) = qD (l.take j) + (if u.kind = 1 then 1 else 0):=by
 rw [List.take_add_one,h]
 unfold qD
 rw [List.filter_append,List.length_append]
 by_cases hk:u.kind = 1 <;> simp [hk]
theorem Jb (l:List aK):qD l ≤ l.length:=List.length_filter_le _ _
section
variable {F0:List AId} {G0 G:ah} {ps:List LP} {Q:ag -> ah -> Prop}
theorem oF {v:ag} {l:List aK} {j:Nat} {u:aK} (h:fV 36 G v (l.map aK.av)) (hj:l[j]? = some u):∃ a,aL T ak v (.int .i64 (j:Int)) = some a /\ lq T G aI a = some u.av :=
 h.at_ (k:=.i64) (i:=fl) (ie:=dA) (T:=T) (t:=ak) (e:=aI) cn rfl fC (by rw [List.getElem?_map,hj]; rfl) rfl
theorem fy {v:ag} {l:List aK} (h:fV 36 G v (l.map aK.av)):gF T G ak v = some (.int .i64 (l.length:Nat)):=by
 rw [h.len (i:=fl) cn rfl,List.length_map]
theorem C3 {u:aK} {K:AId -> ah -> Prop} (hs:Sp F0 G0 ps G) (hu:u.ok) (hK:∀ i G',Sp F0 G0 (ar i u.av :: ps) G' -> K i G'):br G (.own gy) fun i G2=>wg (ax T G2 aI (.ptr i [] 0) u.av) fun G3=>K i G3 :=
 jQ hs fC (aK.fits hu) (by rw [aK.sz hu]; rfl) (aK.okv u) hK
theorem JF (o:Option aK):aW (H8 o) 0 = some (o.getD aK.zero).av:=rfl
theorem JE (o:Option aK):aW (H8 o) 1 = some (.bool o.isSome):=rfl
end
end Go.Esc.M
