import Derived.Test.YtkojimdacnohpaaGreatDoorLPw
import Derived.Test.YtkojimdacnohpaaGreatDoorLDc
import Derived.Test.YtkojimdacnohpaaGreatDoorLCy
set_option maxHeartbeats 1000000
set_option linter.unusedSimpArgs false
set_option linter.unusedVariables false
set_option maxRecDepth 20000
namespace Go.Esc.M
open Go Go.Esc
structure StM where
 side:Int
 cap:Int
 bo:Int
 bp:Int
 loc:Int
 rem:Int
 ack:Int
 atA:Int
 atB:Int
 sgnA:Int
 sgnB:Int
 heldA:Int
 heldB:Int
 behind:Bool
 ptsA:List UInt8
 ptsB:List UInt8
 sig:List UInt8
 failed:Int
 closed:Int
def StM.cs (s:StM) (v_ours v_peers v_shelf:ah):List ah:=[.int .i64 s.side,.int .i64 s.cap,.int .i64 s.bo,.int .i64 s.bp,v_ours,v_peers,.int .i64 s.loc,.int .i64 s.rem,.int .i64 s.ack,.agg [.int .i64 s.atA,.int .i64 s.atB],.agg [.int .i64 s.sgnA,.int .i64 s.sgnB],.agg [.int .i64 s.heldA,.int .i64 s.heldB],.bool s.behind,.agg [.agg (s.ptsA.map u8v),.agg (s.ptsB.map u8v)],.agg (s.sig.map u8v),v_shelf,.int .i64 s.failed,.int .i64 s.closed]
def StM.av (s:StM) (v_ours v_peers v_shelf:ah):ah:=.agg (s.cs v_ours v_peers v_shelf)
structure StM.ok (s:StM):Prop where
 side:I64 s.side
 cap:I64 s.cap
 bo:I64 s.bo
 bp:I64 s.bp
 loc:I64 s.loc
 rem:I64 s.rem
 ack:I64 s.ack
 atA:I64 s.atA
 atB:I64 s.atB
 sgnA:I64 s.sgnA
 sgnB:I64 s.sgnB
 heldA:I64 s.heldA
 heldB:I64 s.heldB
 ptsA:s.ptsA.length=32
 ptsB:s.ptsB.length=32
 sig:s.sig.length=32
 failed:I64 s.failed
 closed:I64 s.closed
theorem StM.szl {s:StM}{v_ours v_peers v_shelf:ah}(h:s.ok) (l:bw v_ours/\bw v_peers/\bw v_shelf):(s.cs v_ours v_peers v_shelf).map Esc.sz=[1,1,1,1,1,1,1,1,1,2,2,2,1,64,32,1,1,1]:=by
 simp[StM.cs,Esc.sz,szs,szh h.ptsA,szh h.ptsB,szh h.sig,l.1.1,l.2.1.1,l.2.2.1]
theorem StM.sz {s:StM}{v_ours v_peers v_shelf:ah}(h:s.ok) (l:bw v_ours/\bw v_peers/\bw v_shelf):Esc.sz (s.av v_ours v_peers v_shelf)=115:=by
 have e:=StM.szl h l;rw[StM.av,Esc.sz,rW,e];rfl
theorem StM.fits {s:StM}{v_ours v_peers v_shelf:ah}(h:s.ok) (l:bw v_ours/\bw v_peers/\bw v_shelf):dD oG (s.av v_ours v_peers v_shelf)=true:=by
 have h1:=StM.sz h l;have h2:(s.av v_ours v_peers v_shelf).isAgg=true:=rfl;simp[dD,h1,h2,oG,kZ.isAgg]
theorem StM.okv {s:StM}{v_ours v_peers v_shelf:ah}(l:bw v_ours/\bw v_peers/\bw v_shelf):Esc.okv (s.av v_ours v_peers v_shelf)=true:=by
 simp[StM.av,StM.cs,Esc.okv,mz,kM,l.1.2.2,l.2.1.2.2,l.2.2.2.2]
section
variable {F0:List AId}{G0 G:ak}{ps:List LP}{i:Nat}{id:AId}{s:StM}{K:ak->Prop}{v_ours v_peers v_shelf:ah}
theorem St.lJ (hg:G id=some (.own (s.av v_ours v_peers v_shelf))) (h:s.ok) (l:bw v_ours/\bw v_peers/\bw v_shelf):ag T G ay (.ptr id [0] 0)=some (.int .i64 s.side):=ld1 hg (StM.szl h l) rfl rfl iD rfl
theorem St.mL (hg:G id=some (.own (s.av v_ours v_peers v_shelf))) (h:s.ok) (l:bw v_ours/\bw v_peers/\bw v_shelf):ag T G aq (.ptr id [1] 1)=some (.int .i64 s.cap):=ld1 hg (StM.szl h l) rfl rfl cu rfl
theorem St.uM (hg:G id=some (.own (s.av v_ours v_peers v_shelf))) (h:s.ok) (l:bw v_ours/\bw v_peers/\bw v_shelf):ag T G aq (.ptr id [2] 2)=some (.int .i64 s.bo):=ld1 hg (StM.szl h l) rfl rfl cu rfl
theorem St.tC (hg:G id=some (.own (s.av v_ours v_peers v_shelf))) (h:s.ok) (l:bw v_ours/\bw v_peers/\bw v_shelf):ag T G aq (.ptr id [3] 3)=some (.int .i64 s.bp):=ld1 hg (StM.szl h l) rfl rfl cu rfl
theorem St.dM (hg:G id=some (.own (s.av v_ours v_peers v_shelf))) (h:s.ok) (l:bw v_ours/\bw v_peers/\bw v_shelf):ag T G aj (.ptr id [4] 4)=some (v_ours):=ld1 hg (StM.szl h l) rfl rfl bT (kF l.1 rfl)
theorem St.eH (hg:G id=some (.own (s.av v_ours v_peers v_shelf))) (h:s.ok) (l:bw v_ours/\bw v_peers/\bw v_shelf):ag T G aj (.ptr id [5] 5)=some (v_peers):=ld1 hg (StM.szl h l) rfl rfl bT (kF l.2.1 rfl)
theorem St.qb (hg:G id=some (.own (s.av v_ours v_peers v_shelf))) (h:s.ok) (l:bw v_ours/\bw v_peers/\bw v_shelf):ag T G aq (.ptr id [6] 6)=some (.int .i64 s.loc):=ld1 hg (StM.szl h l) rfl rfl cu rfl
theorem St.mn (hg:G id=some (.own (s.av v_ours v_peers v_shelf))) (h:s.ok) (l:bw v_ours/\bw v_peers/\bw v_shelf):ag T G aq (.ptr id [7] 7)=some (.int .i64 s.rem):=ld1 hg (StM.szl h l) rfl rfl cu rfl
theorem St.mS (hg:G id=some (.own (s.av v_ours v_peers v_shelf))) (h:s.ok) (l:bw v_ours/\bw v_peers/\bw v_shelf):ag T G aq (.ptr id [8] 8)=some (.int .i64 s.ack):=ld1 hg (StM.szl h l) rfl rfl cu rfl
theorem St.GV (hg:G id=some (.own (s.av v_ours v_peers v_shelf))) (h:s.ok) (l:bw v_ours/\bw v_peers/\bw v_shelf):ag T G aU (.ptr id [9] 9)=some (bE s.atA s.atB):=ld1 hg (StM.szl h l) rfl rfl cK rfl
theorem St.Jr (hg:G id=some (.own (s.av v_ours v_peers v_shelf))) (h:s.ok) (l:bw v_ours/\bw v_peers/\bw v_shelf):ag T G ay (.ptr id [9,0] 9)=some (.int .i64 s.atA):=ld2 hg (StM.szl h l) rfl rfl (ss2:=[1,1]) rfl rfl rfl rfl iD rfl
theorem St.od (hg:G id=some (.own (s.av v_ours v_peers v_shelf))) (h:s.ok) (l:bw v_ours/\bw v_peers/\bw v_shelf):ag T G ay (.ptr id [9,1] 10)=some (.int .i64 s.atB):=ld2 hg (StM.szl h l) rfl rfl (ss2:=[1,1]) rfl rfl rfl rfl iD rfl
theorem St.vr (hg:G id=some (.own (s.av v_ours v_peers v_shelf))) (h:s.ok) (l:bw v_ours/\bw v_peers/\bw v_shelf):ag T G aU (.ptr id [10] 11)=some (bE s.sgnA s.sgnB):=ld1 hg (StM.szl h l) rfl rfl cK rfl
theorem St.KB (hg:G id=some (.own (s.av v_ours v_peers v_shelf))) (h:s.ok) (l:bw v_ours/\bw v_peers/\bw v_shelf):ag T G ay (.ptr id [10,0] 11)=some (.int .i64 s.sgnA):=ld2 hg (StM.szl h l) rfl rfl (ss2:=[1,1]) rfl rfl rfl rfl iD rfl
theorem St.GS (hg:G id=some (.own (s.av v_ours v_peers v_shelf))) (h:s.ok) (l:bw v_ours/\bw v_peers/\bw v_shelf):ag T G aU (.ptr id [11] 13)=some (bE s.heldA s.heldB):=ld1 hg (StM.szl h l) rfl rfl cK rfl
theorem St.qc (hg:G id=some (.own (s.av v_ours v_peers v_shelf))) (h:s.ok) (l:bw v_ours/\bw v_peers/\bw v_shelf):ag T G ay (.ptr id [11,0] 13)=some (.int .i64 s.heldA):=ld2 hg (StM.szl h l) rfl rfl (ss2:=[1,1]) rfl rfl rfl rfl iD rfl
theorem St.En (hg:G id=some (.own (s.av v_ours v_peers v_shelf))) (h:s.ok) (l:bw v_ours/\bw v_peers/\bw v_shelf):ag T G ay (.ptr id [11,1] 14)=some (.int .i64 s.heldB):=ld2 hg (StM.szl h l) rfl rfl (ss2:=[1,1]) rfl rfl rfl rfl iD rfl
theorem St.B3 (hg:G id=some (.own (s.av v_ours v_peers v_shelf))) (h:s.ok) (l:bw v_ours/\bw v_peers/\bw v_shelf):ag T G du (.ptr id [12] 15)=some (.bool s.behind):=ld1 hg (StM.szl h l) rfl rfl lL rfl
theorem St.Am (hg:G id=some (.own (s.av v_ours v_peers v_shelf))) (h:s.ok) (l:bw v_ours/\bw v_peers/\bw v_shelf):ag T G cc (.ptr id [13] 16)=some (mT s.ptsA s.ptsB):=ld1 hg (StM.szl h l) rfl rfl mf (su h.ptsA h.ptsB)
theorem St.sg (hg:G id=some (.own (s.av v_ours v_peers v_shelf))) (h:s.ok) (l:bw v_ours/\bw v_peers/\bw v_shelf):ag T G ar (.ptr id [13,0] 16)=some (.agg (s.ptsA.map u8v)):=ld2 hg (StM.szl h l) rfl rfl (ss2:=[32,32]) (by simp[Esc.sz,szh h.ptsA,szh h.ptsB]) rfl rfl rfl bZ (gm h.ptsA)
theorem St.zb (hg:G id=some (.own (s.av v_ours v_peers v_shelf))) (h:s.ok) (l:bw v_ours/\bw v_peers/\bw v_shelf):ag T G ar (.ptr id [13,1] 48)=some (.agg (s.ptsB.map u8v)):=ld2 hg (StM.szl h l) rfl rfl (ss2:=[32,32]) (by simp[Esc.sz,szh h.ptsA,szh h.ptsB]) rfl rfl rfl bZ (gm h.ptsB)
theorem St.xB (hg:G id=some (.own (s.av v_ours v_peers v_shelf))) (h:s.ok) (l:bw v_ours/\bw v_peers/\bw v_shelf):ag T G ar (.ptr id [14] 80)=some (.agg (s.sig.map u8v)):=ld1 hg (StM.szl h l) rfl rfl bZ (gm h.sig)
theorem St.l6 (hg:G id=some (.own (s.av v_ours v_peers v_shelf))) (h:s.ok) (l:bw v_ours/\bw v_peers/\bw v_shelf):ag T G aV (.ptr id [15] 112)=some (v_shelf):=ld1 hg (StM.szl h l) rfl rfl gz (kF l.2.2 rfl)
theorem St.uf (hg:G id=some (.own (s.av v_ours v_peers v_shelf))) (h:s.ok) (l:bw v_ours/\bw v_peers/\bw v_shelf):ag T G ay (.ptr id [16] 113)=some (.int .i64 s.failed):=ld1 hg (StM.szl h l) rfl rfl iD rfl
theorem St.rz (hg:G id=some (.own (s.av v_ours v_peers v_shelf))) (h:s.ok) (l:bw v_ours/\bw v_peers/\bw v_shelf):ag T G aq (.ptr id [17] 114)=some (.int .i64 s.closed):=ld1 hg (StM.szl h l) rfl rfl cu rfl
theorem St.ld (hg:G id=some (.own (s.av v_ours v_peers v_shelf))) (h:s.ok) (l:bw v_ours/\bw v_peers/\bw v_shelf):ag T G aE (.ptr id [] 0)=some (s.av v_ours v_peers v_shelf):=cj na hg (StM.fits h l)
theorem St.tT (hs:Sp F0 G0 ps G) (hi:ps[i]?=some (au id (s.av v_ours v_peers v_shelf))) (h:s.ok) (l:bw v_ours/\bw v_peers/\bw v_shelf) {x:ah}(hx:bw x) (hK:∀ G',Sp F0 G0 (ps.set i (au id (s.av x v_peers v_shelf))) G'->K G'):wg (aF T G aj (.ptr id [4] 4) x) K:=
 fg (st1 (au.own hs hi) (StM.szl h l) rfl rfl bT (kF hx rfl) (by rw[l.1.1,hx.1]) hx.2.2) (hK _ (Sp.setRow hs hi _))
theorem St.tg (hs:Sp F0 G0 ps G) (hi:ps[i]?=some (au id (s.av v_ours v_peers v_shelf))) (h:s.ok) (l:bw v_ours/\bw v_peers/\bw v_shelf) {x:ah}(hx:bw x) (hK:∀ G',Sp F0 G0 (ps.set i (au id (s.av v_ours x v_shelf))) G'->K G'):wg (aF T G aj (.ptr id [5] 5) x) K:=
 fg (st1 (au.own hs hi) (StM.szl h l) rfl rfl bT (kF hx rfl) (by rw[l.2.1.1,hx.1]) hx.2.2) (hK _ (Sp.setRow hs hi _))
theorem St.Lx (hs:Sp F0 G0 ps G) (hi:ps[i]?=some (au id (s.av v_ours v_peers v_shelf))) (h:s.ok) (l:bw v_ours/\bw v_peers/\bw v_shelf) (x:Int) (hK:∀ G',Sp F0 G0 (ps.set i (au id (({ s with loc:=x }:StM).av v_ours v_peers v_shelf))) G'->K G'):wg (aF T G aq (.ptr id [6] 6) (.int .i64 x)) K:=
 fg (st1 (au.own hs hi) (StM.szl h l) rfl rfl cu rfl rfl rfl) (hK _ (Sp.setRow hs hi _))
theorem St.Lw (hs:Sp F0 G0 ps G) (hi:ps[i]?=some (au id (s.av v_ours v_peers v_shelf))) (h:s.ok) (l:bw v_ours/\bw v_peers/\bw v_shelf) (x:Int) (hK:∀ G',Sp F0 G0 (ps.set i (au id (({ s with rem:=x }:StM).av v_ours v_peers v_shelf))) G'->K G'):wg (aF T G aq (.ptr id [7] 7) (.int .i64 x)) K:=
 fg (st1 (au.own hs hi) (StM.szl h l) rfl rfl cu rfl rfl rfl) (hK _ (Sp.setRow hs hi _))
theorem St.Ly (hs:Sp F0 G0 ps G) (hi:ps[i]?=some (au id (s.av v_ours v_peers v_shelf))) (h:s.ok) (l:bw v_ours/\bw v_peers/\bw v_shelf) (x:Int) (hK:∀ G',Sp F0 G0 (ps.set i (au id (({ s with ack:=x }:StM).av v_ours v_peers v_shelf))) G'->K G'):wg (aF T G aq (.ptr id [8] 8) (.int .i64 x)) K:=
 fg (st1 (au.own hs hi) (StM.szl h l) rfl rfl cu rfl rfl rfl) (hK _ (Sp.setRow hs hi _))
theorem St.Mf (hs:Sp F0 G0 ps G) (hi:ps[i]?=some (au id (s.av v_ours v_peers v_shelf))) (h:s.ok) (l:bw v_ours/\bw v_peers/\bw v_shelf) (x y:Int) (hK:∀ G',Sp F0 G0 (ps.set i (au id (({ s with atA:=x,atB:=y }:StM).av v_ours v_peers v_shelf))) G'->K G'):wg (aF T G aU (.ptr id [9] 9) (bE x y)) K:=
 fg (st1 (au.own hs hi) (StM.szl h l) rfl rfl cK rfl rfl rfl) (hK _ (Sp.setRow hs hi _))
theorem St.Lv (hs:Sp F0 G0 ps G) (hi:ps[i]?=some (au id (s.av v_ours v_peers v_shelf))) (h:s.ok) (l:bw v_ours/\bw v_peers/\bw v_shelf) (x y:Int) (hK:∀ G',Sp F0 G0 (ps.set i (au id (({ s with sgnA:=x,sgnB:=y }:StM).av v_ours v_peers v_shelf))) G'->K G'):wg (aF T G aU (.ptr id [10] 11) (bE x y)) K:=
 fg (st1 (au.own hs hi) (StM.szl h l) rfl rfl cK rfl rfl rfl) (hK _ (Sp.setRow hs hi _))
theorem St.Kl (hs:Sp F0 G0 ps G) (hi:ps[i]?=some (au id (s.av v_ours v_peers v_shelf))) (h:s.ok) (l:bw v_ours/\bw v_peers/\bw v_shelf) (x y:Int) (hK:∀ G',Sp F0 G0 (ps.set i (au id (({ s with heldA:=x,heldB:=y }:StM).av v_ours v_peers v_shelf))) G'->K G'):wg (aF T G aU (.ptr id [11] 13) (bE x y)) K:=
 fg (st1 (au.own hs hi) (StM.szl h l) rfl rfl cK rfl rfl rfl) (hK _ (Sp.setRow hs hi _))
theorem St.BE (hs:Sp F0 G0 ps G) (hi:ps[i]?=some (au id (s.av v_ours v_peers v_shelf))) (h:s.ok) (l:bw v_ours/\bw v_peers/\bw v_shelf) (x:Bool) (hK:∀ G',Sp F0 G0 (ps.set i (au id (({ s with behind:=x }:StM).av v_ours v_peers v_shelf))) G'->K G'):wg (aF T G du (.ptr id [12] 15) (.bool x)) K:=
 fg (st1 (au.own hs hi) (StM.szl h l) rfl rfl lL rfl rfl rfl) (hK _ (Sp.setRow hs hi _))
theorem St.IU (hs:Sp F0 G0 ps G) (hi:ps[i]?=some (au id (s.av v_ours v_peers v_shelf))) (h:s.ok) (l:bw v_ours/\bw v_peers/\bw v_shelf) {x y:List UInt8}(hx:x.length=32) (hy:y.length=32) (hK:∀ G',Sp F0 G0 (ps.set i (au id (({ s with ptsA:=x,ptsB:=y }:StM).av v_ours v_peers v_shelf))) G'->K G'):wg (aF T G cc (.ptr id [13] 16) (mT x y)) K:=
 fg (st1 (au.own hs hi) (StM.szl h l) rfl rfl mf (su hx hy) (by simp[mT,Esc.sz,szs,szh hx,szh hy,szh h.ptsA,szh h.ptsB]) (by simp[mT,Esc.okv,mz,kM])) (hK _ (Sp.setRow hs hi _))
theorem St.IQ (hs:Sp F0 G0 ps G) (hi:ps[i]?=some (au id (s.av v_ours v_peers v_shelf))) (h:s.ok) (l:bw v_ours/\bw v_peers/\bw v_shelf) {x:List UInt8}(hx:x.length=32) (hK:∀ G',Sp F0 G0 (ps.set i (au id (({ s with sig:=x }:StM).av v_ours v_peers v_shelf))) G'->K G'):wg (aF T G ar (.ptr id [14] 80) (.agg (x.map u8v))) K:=
 fg (st1 (au.own hs hi) (StM.szl h l) rfl rfl bZ (gm hx) (by simp[Esc.sz,szh hx,szh h.sig]) (by simp[Esc.okv,kM])) (hK _ (Sp.setRow hs hi _))
theorem St.vO (hs:Sp F0 G0 ps G) (hi:ps[i]?=some (au id (s.av v_ours v_peers v_shelf))) (h:s.ok) (l:bw v_ours/\bw v_peers/\bw v_shelf) {x:ah}(hx:bw x) (hK:∀ G',Sp F0 G0 (ps.set i (au id (s.av v_ours v_peers x))) G'->K G'):wg (aF T G aV (.ptr id [15] 112) x) K:=
 fg (st1 (au.own hs hi) (StM.szl h l) rfl rfl gz (kF hx rfl) (by rw[l.2.2.1,hx.1]) hx.2.2) (hK _ (Sp.setRow hs hi _))
theorem St.st (hs:Sp F0 G0 ps G) (hi:ps[i]?=some (au id (s.av v_ours v_peers v_shelf))) (h:s.ok) (l:bw v_ours/\bw v_peers/\bw v_shelf) {s':StM}{w_ours w_peers w_shelf:ah}(h':s'.ok) (m:bw w_ours/\bw w_peers/\bw w_shelf) (hK:∀ G',Sp F0 G0 (ps.set i (au id (s'.av w_ours w_peers w_shelf))) G'->K G'):wg (aF T G aE (.ptr id [] 0) (s'.av w_ours w_peers w_shelf)) K:=
 fg (ig na (au.own hs hi) (StM.fits h' m) (by rw[StM.sz h l,StM.sz h' m]) (StM.okv m)) (hK _ (Sp.setRow hs hi _))
theorem St.nw {s':StM}{w_ours w_peers w_shelf:ah}(hs:Sp F0 G0 ps G) (h':s'.ok) (m:bw w_ours/\bw w_peers/\bw w_shelf) {K:AId->ak->Prop}(hK:∀ i G',Sp F0 G0 (au i (s'.av w_ours w_peers w_shelf)::ps) G'->K i G'):br G (.own hO) fun i G2=>wg (aF T G2 aE (.ptr i [] 0) (s'.av w_ours w_peers w_shelf)) fun G3=>K i G3:=
 jL hs na (StM.fits h' m) (by rw[StM.sz h' m];rfl) (StM.okv m) hK
end
end Go.Esc.M
namespace Go.Esc.M
open Go Go.Esc
structure RcM where
 kind:Int
 upd:aL
 index:Int
 cntA:Int
 cntB:Int
 sig:List UInt8
 secret:List UInt8
 point:List UInt8
 code:Int
 deriving DecidableEq
def RcM.cs (s:RcM) (v_upds:ah):List ah:=[.int .i64 s.kind,s.upd.av,v_upds,.int .i64 s.index,.agg [.int .i64 s.cntA,.int .i64 s.cntB],.agg (s.sig.map u8v),.agg (s.secret.map u8v),.agg (s.point.map u8v),.int .i64 s.code]
def RcM.av (s:RcM) (v_upds:ah):ah:=.agg (s.cs v_upds)
structure RcM.ok (s:RcM):Prop where
 kind:I64 s.kind
 upd:s.upd.ok
 index:I64 s.index
 cntA:I64 s.cntA
 cntB:I64 s.cntB
 sig:s.sig.length=32
 secret:s.secret.length=32
 point:s.point.length=32
 code:I64 s.code
theorem RcM.szl {s:RcM}{v_upds:ah}(h:s.ok) (l:bw v_upds):(s.cs v_upds).map Esc.sz=[1,36,1,1,2,32,32,32,1]:=by
 simp[RcM.cs,Esc.sz,szs,aL.sz h.upd,szh h.sig,szh h.secret,szh h.point,l.1]
theorem RcM.sz {s:RcM}{v_upds:ah}(h:s.ok) (l:bw v_upds):Esc.sz (s.av v_upds)=138:=by
 have e:=RcM.szl h l;rw[RcM.av,Esc.sz,rW,e];rfl
theorem RcM.fits {s:RcM}{v_upds:ah}(h:s.ok) (l:bw v_upds):dD nY (s.av v_upds)=true:=by
 have h1:=RcM.sz h l;have h2:(s.av v_upds).isAgg=true:=rfl;simp[dD,h1,h2,nY,kZ.isAgg]
theorem RcM.okv {s:RcM}{v_upds:ah}(l:bw v_upds):Esc.okv (s.av v_upds)=true:=by
 simp[RcM.av,RcM.cs,Esc.okv,mz,kM,l.2.2,aL.okv _]
section
variable {F0:List AId}{G0 G:ak}{ps:List LP}{i:Nat}{id:AId}{s:RcM}{K:ak->Prop}{v_upds:ah}
theorem Rc.sj (hg:G id=some (.own (s.av v_upds))) (h:s.ok) (l:bw v_upds):ag T G ay (.ptr id [0] 0)=some (.int .i64 s.kind):=ld1 hg (RcM.szl h l) rfl rfl iD rfl
theorem Rc.Al (hg:G id=some (.own (s.av v_upds))) (h:s.ok) (l:bw v_upds):ag T G aG (.ptr id [1] 1)=some (s.upd.av):=ld1 hg (RcM.szl h l) rfl rfl dE (aL.fits h.upd)
theorem Rc.za (hg:G id=some (.own (s.av v_upds))) (h:s.ok) (l:bw v_upds):ag T G aj (.ptr id [2] 37)=some (v_upds):=ld1 hg (RcM.szl h l) rfl rfl bT (kF l rfl)
theorem Rc.ni (hg:G id=some (.own (s.av v_upds))) (h:s.ok) (l:bw v_upds):ag T G aq (.ptr id [3] 38)=some (.int .i64 s.index):=ld1 hg (RcM.szl h l) rfl rfl cu rfl
theorem Rc.FE (hg:G id=some (.own (s.av v_upds))) (h:s.ok) (l:bw v_upds):ag T G aU (.ptr id [4] 39)=some (bE s.cntA s.cntB):=ld1 hg (RcM.szl h l) rfl rfl cK rfl
theorem Rc.C5 (hg:G id=some (.own (s.av v_upds))) (h:s.ok) (l:bw v_upds):ag T G ay (.ptr id [4,0] 39)=some (.int .i64 s.cntA):=ld2 hg (RcM.szl h l) rfl rfl (ss2:=[1,1]) rfl rfl rfl rfl iD rfl
theorem Rc.KC (hg:G id=some (.own (s.av v_upds))) (h:s.ok) (l:bw v_upds):ag T G ay (.ptr id [4,1] 40)=some (.int .i64 s.cntB):=ld2 hg (RcM.szl h l) rfl rfl (ss2:=[1,1]) rfl rfl rfl rfl iD rfl
theorem Rc.xB (hg:G id=some (.own (s.av v_upds))) (h:s.ok) (l:bw v_upds):ag T G ar (.ptr id [5] 41)=some (.agg (s.sig.map u8v)):=ld1 hg (RcM.szl h l) rfl rfl bZ (gm h.sig)
theorem Rc.xC (hg:G id=some (.own (s.av v_upds))) (h:s.ok) (l:bw v_upds):ag T G ar (.ptr id [6] 73)=some (.agg (s.secret.map u8v)):=ld1 hg (RcM.szl h l) rfl rfl bZ (gm h.secret)
theorem Rc.An (hg:G id=some (.own (s.av v_upds))) (h:s.ok) (l:bw v_upds):ag T G ar (.ptr id [7] 105)=some (.agg (s.point.map u8v)):=ld1 hg (RcM.szl h l) rfl rfl bZ (gm h.point)
theorem Rc.GU (hg:G id=some (.own (s.av v_upds))) (h:s.ok) (l:bw v_upds):ag T G ay (.ptr id [8] 137)=some (.int .i64 s.code):=ld1 hg (RcM.szl h l) rfl rfl iD rfl
theorem Rc.ld (hg:G id=some (.own (s.av v_upds))) (h:s.ok) (l:bw v_upds):ag T G ax (.ptr id [] 0)=some (s.av v_upds):=cj pK hg (RcM.fits h l)
theorem Rc.aeS (hs:Sp F0 G0 ps G) (hi:ps[i]?=some (au id (s.av v_upds))) (h:s.ok) (l:bw v_upds) {x:ah}(hx:bw x) (hK:∀ G',Sp F0 G0 (ps.set i (au id (s.av x))) G'->K G'):wg (aF T G aj (.ptr id [2] 37) x) K:=
 fg (st1 (au.own hs hi) (RcM.szl h l) rfl rfl bT (kF hx rfl) (by rw[l.1,hx.1]) hx.2.2) (hK _ (Sp.setRow hs hi _))
theorem Rc.IQ (hs:Sp F0 G0 ps G) (hi:ps[i]?=some (au id (s.av v_upds))) (h:s.ok) (l:bw v_upds) {x:List UInt8}(hx:x.length=32) (hK:∀ G',Sp F0 G0 (ps.set i (au id (({ s with sig:=x }:RcM).av v_upds))) G'->K G'):wg (aF T G ar (.ptr id [5] 41) (.agg (x.map u8v))) K:=
 fg (st1 (au.own hs hi) (RcM.szl h l) rfl rfl bZ (gm hx) (by simp[Esc.sz,szh hx,szh h.sig]) (by simp[Esc.okv,kM])) (hK _ (Sp.setRow hs hi _))
theorem Rc.st (hs:Sp F0 G0 ps G) (hi:ps[i]?=some (au id (s.av v_upds))) (h:s.ok) (l:bw v_upds) {s':RcM}{w_upds:ah}(h':s'.ok) (m:bw w_upds) (hK:∀ G',Sp F0 G0 (ps.set i (au id (s'.av w_upds))) G'->K G'):wg (aF T G ax (.ptr id [] 0) (s'.av w_upds)) K:=
 fg (ig pK (au.own hs hi) (RcM.fits h' m) (by rw[RcM.sz h l,RcM.sz h' m]) (RcM.okv m)) (hK _ (Sp.setRow hs hi _))
theorem Rc.nw {s':RcM}{w_upds:ah}(hs:Sp F0 G0 ps G) (h':s'.ok) (m:bw w_upds) {K:AId->ak->Prop}(hK:∀ i G',Sp F0 G0 (au i (s'.av w_upds)::ps) G'->K i G'):br G (.own dw) fun i G2=>wg (aF T G2 ax (.ptr i [] 0) (s'.av w_upds)) fun G3=>K i G3:=
 jL hs pK (RcM.fits h' m) (by rw[RcM.sz h' m];rfl) (RcM.okv m) hK
end
end Go.Esc.M
namespace Go.Esc.M
open Go Go.Esc
structure CfM where
 side:Int
 cap:Int
 ours:Int
 seed:List UInt8
 key:List UInt8
 pkey:List UInt8
 ptsA:List UInt8
 ptsB:List UInt8
 seg:Int
def CfM.cs (s:CfM):List ah:=[.int .i64 s.side,.int .i64 s.cap,.int .i64 s.ours,.agg (s.seed.map u8v),.agg (s.key.map u8v),.agg (s.pkey.map u8v),.agg [.agg (s.ptsA.map u8v),.agg (s.ptsB.map u8v)],.int .i64 s.seg]
def CfM.av (s:CfM):ah:=.agg (s.cs )
structure CfM.ok (s:CfM):Prop where
 side:I64 s.side
 cap:I64 s.cap
 ours:I64 s.ours
 seed:s.seed.length=32
 key:s.key.length=32
 pkey:s.pkey.length=32
 ptsA:s.ptsA.length=32
 ptsB:s.ptsB.length=32
 seg:I64 s.seg
theorem CfM.szl {s:CfM}(h:s.ok):(s.cs ).map Esc.sz=[1,1,1,32,32,32,64,1]:=by
 simp[CfM.cs,Esc.sz,szs,szh h.seed,szh h.key,szh h.pkey,szh h.ptsA,szh h.ptsB]
theorem CfM.sz {s:CfM}(h:s.ok):Esc.sz (s.av )=164:=by
 have e:=CfM.szl h;rw[CfM.av,Esc.sz,rW,e];rfl
theorem CfM.fits {s:CfM}(h:s.ok):dD nt (s.av )=true:=by
 have h1:=CfM.sz h;have h2:(s.av ).isAgg=true:=rfl;simp[dD,h1,h2,nt,kZ.isAgg]
theorem CfM.okv {s:CfM}:Esc.okv (s.av )=true:=by
 simp[CfM.av,CfM.cs,Esc.okv,mz,kM]
section
variable {F0:List AId}{G0 G:ak}{ps:List LP}{i:Nat}{id:AId}{s:CfM}{K:ak->Prop}
theorem Cf.lJ (hg:G id=some (.own (s.av ))) (h:s.ok):ag T G ay (.ptr id [0] 0)=some (.int .i64 s.side):=ld1 hg (CfM.szl h ) rfl rfl iD rfl
theorem Cf.mL (hg:G id=some (.own (s.av ))) (h:s.ok):ag T G aq (.ptr id [1] 1)=some (.int .i64 s.cap):=ld1 hg (CfM.szl h ) rfl rfl cu rfl
theorem Cf.dM (hg:G id=some (.own (s.av ))) (h:s.ok):ag T G aq (.ptr id [2] 2)=some (.int .i64 s.ours):=ld1 hg (CfM.szl h ) rfl rfl cu rfl
theorem Cf.ue (hg:G id=some (.own (s.av ))) (h:s.ok):ag T G ar (.ptr id [3] 3)=some (.agg (s.seed.map u8v)):=ld1 hg (CfM.szl h ) rfl rfl bZ (gm h.seed)
theorem Cf.Jq (hg:G id=some (.own (s.av ))) (h:s.ok):ag T G ar (.ptr id [4] 35)=some (.agg (s.key.map u8v)):=ld1 hg (CfM.szl h ) rfl rfl bZ (gm h.key)
theorem Cf.GR (hg:G id=some (.own (s.av ))) (h:s.ok):ag T G ar (.ptr id [5] 67)=some (.agg (s.pkey.map u8v)):=ld1 hg (CfM.szl h ) rfl rfl bZ (gm h.pkey)
theorem Cf.Am (hg:G id=some (.own (s.av ))) (h:s.ok):ag T G cc (.ptr id [6] 99)=some (mT s.ptsA s.ptsB):=ld1 hg (CfM.szl h ) rfl rfl mf (su h.ptsA h.ptsB)
theorem Cf.sg (hg:G id=some (.own (s.av ))) (h:s.ok):ag T G ar (.ptr id [6,0] 99)=some (.agg (s.ptsA.map u8v)):=ld2 hg (CfM.szl h ) rfl rfl (ss2:=[32,32]) (by simp[Esc.sz,szh h.ptsA,szh h.ptsB]) rfl rfl rfl bZ (gm h.ptsA)
theorem Cf.zb (hg:G id=some (.own (s.av ))) (h:s.ok):ag T G ar (.ptr id [6,1] 131)=some (.agg (s.ptsB.map u8v)):=ld2 hg (CfM.szl h ) rfl rfl (ss2:=[32,32]) (by simp[Esc.sz,szh h.ptsA,szh h.ptsB]) rfl rfl rfl bZ (gm h.ptsB)
theorem Cf.ld (hg:G id=some (.own (s.av ))) (h:s.ok):ag T G bU (.ptr id [] 0)=some (s.av ):=cj kp hg (CfM.fits h )
theorem Cf.tT (hs:Sp F0 G0 ps G) (hi:ps[i]?=some (au id (s.av ))) (h:s.ok) (x:Int) (hK:∀ G',Sp F0 G0 (ps.set i (au id (({ s with ours:=x }:CfM).av ))) G'->K G'):wg (aF T G aq (.ptr id [2] 2) (.int .i64 x)) K:=
 fg (st1 (au.own hs hi) (CfM.szl h ) rfl rfl cu rfl rfl rfl) (hK _ (Sp.setRow hs hi _))
theorem Cf.IU (hs:Sp F0 G0 ps G) (hi:ps[i]?=some (au id (s.av ))) (h:s.ok) {x y:List UInt8}(hx:x.length=32) (hy:y.length=32) (hK:∀ G',Sp F0 G0 (ps.set i (au id (({ s with ptsA:=x,ptsB:=y }:CfM).av ))) G'->K G'):wg (aF T G cc (.ptr id [6] 99) (mT x y)) K:=
 fg (st1 (au.own hs hi) (CfM.szl h ) rfl rfl mf (su hx hy) (by simp[mT,Esc.sz,szs,szh hx,szh hy,szh h.ptsA,szh h.ptsB]) (by simp[mT,Esc.okv,mz,kM])) (hK _ (Sp.setRow hs hi _))
theorem Cf.st (hs:Sp F0 G0 ps G) (hi:ps[i]?=some (au id (s.av ))) (h:s.ok) {s':CfM}(h':s'.ok) (hK:∀ G',Sp F0 G0 (ps.set i (au id (s'.av ))) G'->K G'):wg (aF T G bU (.ptr id [] 0) (s'.av )) K:=
 fg (ig kp (au.own hs hi) (CfM.fits h' ) (by rw[CfM.sz h ,CfM.sz h' ]) (CfM.okv )) (hK _ (Sp.setRow hs hi _))
theorem Cf.nw {s':CfM}(hs:Sp F0 G0 ps G) (h':s'.ok) {K:AId->ak->Prop}(hK:∀ i G',Sp F0 G0 (au i (s'.av )::ps) G'->K i G'):br G (.own rK) fun i G2=>wg (aF T G2 bU (.ptr i [] 0) (s'.av )) fun G3=>K i G3:=
 jL hs kp (CfM.fits h' ) (by rw[CfM.sz h' ];rfl) (CfM.okv ) hK
end
end Go.Esc.M
namespace Go.Esc.M
open Go Go.Esc
structure DlM where
 cap:Int
 ours:Int
 seedsA:List UInt8
 seedsB:List UInt8
 keysA:List UInt8
 keysB:List UInt8
def DlM.cs (s:DlM):List ah:=[.int .i64 s.cap,.int .i64 s.ours,.agg [.agg (s.seedsA.map u8v),.agg (s.seedsB.map u8v)],.agg [.agg (s.keysA.map u8v),.agg (s.keysB.map u8v)]]
def DlM.av (s:DlM):ah:=.agg (s.cs )
structure DlM.ok (s:DlM):Prop where
 cap:I64 s.cap
 ours:I64 s.ours
 seedsA:s.seedsA.length=32
 seedsB:s.seedsB.length=32
 keysA:s.keysA.length=32
 keysB:s.keysB.length=32
theorem DlM.szl {s:DlM}(h:s.ok):(s.cs ).map Esc.sz=[1,1,64,64]:=by
 simp[DlM.cs,Esc.sz,szs,szh h.seedsA,szh h.seedsB,szh h.keysA,szh h.keysB]
theorem DlM.sz {s:DlM}(h:s.ok):Esc.sz (s.av )=130:=by
 have e:=DlM.szl h;rw[DlM.av,Esc.sz,rW,e];rfl
theorem DlM.fits {s:DlM}(h:s.ok):dD lC (s.av )=true:=by
 have h1:=DlM.sz h;have h2:(s.av ).isAgg=true:=rfl;simp[dD,h1,h2,lC,kZ.isAgg]
theorem DlM.okv {s:DlM}:Esc.okv (s.av )=true:=by
 simp[DlM.av,DlM.cs,Esc.okv,mz,kM]
section
variable {F0:List AId}{G0 G:ak}{ps:List LP}{i:Nat}{id:AId}{s:DlM}{K:ak->Prop}
theorem Dl.mL (hg:G id=some (.own (s.av ))) (h:s.ok):ag T G aq (.ptr id [0] 0)=some (.int .i64 s.cap):=ld1 hg (DlM.szl h ) rfl rfl cu rfl
theorem Dl.dM (hg:G id=some (.own (s.av ))) (h:s.ok):ag T G aq (.ptr id [1] 1)=some (.int .i64 s.ours):=ld1 hg (DlM.szl h ) rfl rfl cu rfl
theorem Dl.pS (hg:G id=some (.own (s.av ))) (h:s.ok):ag T G ar (.ptr id [2,0] 2)=some (.agg (s.seedsA.map u8v)):=ld2 hg (DlM.szl h ) rfl rfl (ss2:=[32,32]) (by simp[Esc.sz,szh h.seedsA,szh h.seedsB]) rfl rfl rfl bZ (gm h.seedsA)
theorem Dl.pR (hg:G id=some (.own (s.av ))) (h:s.ok):ag T G ar (.ptr id [2,1] 34)=some (.agg (s.seedsB.map u8v)):=ld2 hg (DlM.szl h ) rfl rfl (ss2:=[32,32]) (by simp[Esc.sz,szh h.seedsA,szh h.seedsB]) rfl rfl rfl bZ (gm h.seedsB)
theorem Dl.ry (hg:G id=some (.own (s.av ))) (h:s.ok):ag T G ar (.ptr id [3,0] 66)=some (.agg (s.keysA.map u8v)):=ld2 hg (DlM.szl h ) rfl rfl (ss2:=[32,32]) (by simp[Esc.sz,szh h.keysA,szh h.keysB]) rfl rfl rfl bZ (gm h.keysA)
theorem Dl.ru (hg:G id=some (.own (s.av ))) (h:s.ok):ag T G ar (.ptr id [3,1] 98)=some (.agg (s.keysB.map u8v)):=ld2 hg (DlM.szl h ) rfl rfl (ss2:=[32,32]) (by simp[Esc.sz,szh h.keysA,szh h.keysB]) rfl rfl rfl bZ (gm h.keysB)
theorem Dl.ld (hg:G id=some (.own (s.av ))) (h:s.ok):ag T G db (.ptr id [] 0)=some (s.av ):=cj nf hg (DlM.fits h )
theorem Dl.tT (hs:Sp F0 G0 ps G) (hi:ps[i]?=some (au id (s.av ))) (h:s.ok) (x:Int) (hK:∀ G',Sp F0 G0 (ps.set i (au id (({ s with ours:=x }:DlM).av ))) G'->K G'):wg (aF T G aq (.ptr id [1] 1) (.int .i64 x)) K:=
 fg (st1 (au.own hs hi) (DlM.szl h ) rfl rfl cu rfl rfl rfl) (hK _ (Sp.setRow hs hi _))
theorem Dl.st (hs:Sp F0 G0 ps G) (hi:ps[i]?=some (au id (s.av ))) (h:s.ok) {s':DlM}(h':s'.ok) (hK:∀ G',Sp F0 G0 (ps.set i (au id (s'.av ))) G'->K G'):wg (aF T G db (.ptr id [] 0) (s'.av )) K:=
 fg (ig nf (au.own hs hi) (DlM.fits h' ) (by rw[DlM.sz h ,DlM.sz h' ]) (DlM.okv )) (hK _ (Sp.setRow hs hi _))
theorem Dl.nw {s':DlM}(hs:Sp F0 G0 ps G) (h':s'.ok) {K:AId->ak->Prop}(hK:∀ i G',Sp F0 G0 (au i (s'.av )::ps) G'->K i G'):br G (.own pV) fun i G2=>wg (aF T G2 db (.ptr i [] 0) (s'.av )) fun G3=>K i G3:=
 jL hs nf (DlM.fits h' ) (by rw[DlM.sz h' ];rfl) (DlM.okv ) hK
end
end Go.Esc.M
namespace Go.Esc.M
open Go Go.Esc
structure jj where
 kind:Int
 side:Bool
 amount:Int
 id:Int
 hash:List UInt8
 note:List UInt8
 index:Int
def jj.cs (s:jj):List ah:=[.int .i64 s.kind,.bool s.side,.int .i64 s.amount,.int .i64 s.id,.agg (s.hash.map u8v),.str s.note,.int .i64 s.index]
def jj.av (s:jj):ah:=.agg (s.cs )
structure jj.ok (s:jj):Prop where
 kind:I64 s.kind
 amount:I64 s.amount
 id:I64 s.id
 hash:s.hash.length=32
 note:s.note.length≤9223372036854775807
 index:I64 s.index
theorem jj.szl {s:jj}(h:s.ok):(s.cs ).map Esc.sz=[1,1,1,1,32,1,1]:=by
 simp[jj.cs,Esc.sz,szs,szh h.hash]
theorem jj.sz {s:jj}(h:s.ok):Esc.sz (s.av )=38:=by
 have e:=jj.szl h;rw[jj.av,Esc.sz,rW,e];rfl
theorem jj.fits {s:jj}(h:s.ok):dD kh (s.av )=true:=by
 have h1:=jj.sz h;have h2:(s.av ).isAgg=true:=rfl;simp[dD,h1,h2,kh,kZ.isAgg]
theorem jj.okv {s:jj}:Esc.okv (s.av )=true:=by
 simp[jj.av,jj.cs,Esc.okv,mz,kM]
section
variable {F0:List AId}{G0 G:ak}{ps:List LP}{i:Nat}{id:AId}{s:jj}{K:ak->Prop}
theorem Oq.sj (hg:G id=some (.own (s.av ))) (h:s.ok):ag T G ay (.ptr id [0] 0)=some (.int .i64 s.kind):=ld1 hg (jj.szl h ) rfl rfl iD rfl
theorem Oq.lJ (hg:G id=some (.own (s.av ))) (h:s.ok):ag T G du (.ptr id [1] 1)=some (.bool s.side):=ld1 hg (jj.szl h ) rfl rfl lL rfl
theorem Oq.xD (hg:G id=some (.own (s.av ))) (h:s.ok):ag T G aq (.ptr id [2] 2)=some (.int .i64 s.amount):=ld1 hg (jj.szl h ) rfl rfl cu rfl
theorem Oq.B0 (hg:G id=some (.own (s.av ))) (h:s.ok):ag T G aq (.ptr id [3] 3)=some (.int .i64 s.id):=ld1 hg (jj.szl h ) rfl rfl cu rfl
theorem Oq.sk (hg:G id=some (.own (s.av ))) (h:s.ok):ag T G ar (.ptr id [4] 4)=some (.agg (s.hash.map u8v)):=ld1 hg (jj.szl h ) rfl rfl bZ (gm h.hash)
theorem Oq.zc (hg:G id=some (.own (s.av ))) (h:s.ok):ag T G bH (.ptr id [5] 36)=some (.str s.note):=ld1 hg (jj.szl h ) rfl rfl fS rfl
theorem Oq.ni (hg:G id=some (.own (s.av ))) (h:s.ok):ag T G aq (.ptr id [6] 37)=some (.int .i64 s.index):=ld1 hg (jj.szl h ) rfl rfl cu rfl
theorem Oq.ld (hg:G id=some (.own (s.av ))) (h:s.ok):ag T G ja (.ptr id [] 0)=some (s.av ):=cj kI hg (jj.fits h )
theorem Oq.st (hs:Sp F0 G0 ps G) (hi:ps[i]?=some (au id (s.av ))) (h:s.ok) {s':jj}(h':s'.ok) (hK:∀ G',Sp F0 G0 (ps.set i (au id (s'.av ))) G'->K G'):wg (aF T G ja (.ptr id [] 0) (s'.av )) K:=
 fg (ig kI (au.own hs hi) (jj.fits h' ) (by rw[jj.sz h ,jj.sz h' ]) (jj.okv )) (hK _ (Sp.setRow hs hi _))
theorem Oq.nw {s':jj}(hs:Sp F0 G0 ps G) (h':s'.ok) {K:AId->ak->Prop}(hK:∀ i G',Sp F0 G0 (au i (s'.av )::ps) G'->K i G'):br G (.own q7) fun i G2=>wg (aF T G2 ja (.ptr i [] 0) (s'.av )) fun G3=>K i G3:=
 jL hs kI (jj.fits h' ) (by rw[jj.sz h' ];rfl) (jj.okv ) hK
end
end Go.Esc.M
namespace Go.Esc.M
open Go Go.Esc
theorem lW {u:aL}(h:dp u=true):0≤u.id/\u.id<2048/\((u.kind=1/\1≤u.amount/\u.amount≤1152921504606846976/\u.note=[])\/(u.kind=2/\u.amount=0/\u.note=[])\/(u.kind=3/\u.amount=0/\u.hash=h0/\u.note.length≤64)):=by
 unfold dp Ek at h;simp only[Bool.and_eq_true,decide_eq_true_eq]at h;obtain⟨h1,h2,h3⟩:=h;refine⟨h1,h2,?_⟩;split at h3
 ·simp only[Bool.and_eq_true,decide_eq_true_eq]at h3;rename_i hk;exact .inl ⟨hk,h3.1,h3.2.1,h3.2.2⟩
 split at h3
 ·simp only[Bool.and_eq_true,decide_eq_true_eq]at h3;rename_i hk;exact .inr (.inl ⟨hk,h3.1,h3.2⟩)
 split at h3
 ·simp only[Bool.and_eq_true,decide_eq_true_eq]at h3;rename_i hk;exact .inr (.inr ⟨hk,h3.1,h3.2.1,h3.2.2⟩)
 ·cases h3
section
variable {F0:List AId}{G0 G:ak}{ps:List LP}{Q:ah->ak->Prop}
theorem BH {i:AId}{u:aL}(h:u.ok) (hg:G i=some (.own u.av)):∃ x,dV T ar (.ptr i [3] 3) none none none=some x/\ff 1 G x (u.hash.map u8v):=by
 have e1:T ar=some dQ:=bZ;have e2:dQ.desc=.array 32 cm:=rfl;refine⟨.slice i [3] 0 3 32 32,by simp[dV,e1,e2,cW,j8,lH,gi],.inl ⟨_,_,_,_,_,_,rfl,?_⟩⟩;have hh:=h.hash;have ha:lO G 1 i [3] 0 3=some (u.hash.map u8v):=by
  simp[lO,nI,hg,mQ,aL.av,aL.cs,sub,szs,Esc.sz,kd]
 rw[gq,ha];simp[hh,List.take_of_length_le]
end
end Go.Esc.M
namespace Go.Esc.M
open Go Go.Esc
def okU (u:aL) (n:Nat):aL×Int×Int:=bif dp u then (u,(n:Int),0) else (aL.zero,0,120)
theorem MI {k i a:Int}{h n:List UInt8}(hk:I64 k) (hi:I64 i) (ha:I64 a) (hh:h.length=32) (hn:n.length≤9223372036854775807):(⟨k,i,a,h,n⟩:aL).ok:=⟨hk,hi,ha,hh,hn⟩
theorem cL:I64 0:=⟨by decide,by decide⟩
theorem tk {b:List UInt8}{a n:Nat}{nn:Int}(hn:nn=(n:Int)) (ha:a≤b.length):takes (b.drop a,0) nn=if a+n≤b.length then (slice b a n,(b.drop (a+n),0)) else ([],([],2)):=by
 by_cases h:a+n≤b.length
 ·rw[if_pos h,IF hn h]
 ·rw[if_neg h,DP (by rw[List.length_drop];omega)]
theorem Dq:dv=aL.zero.av:=rfl
theorem sF:bj T aG []=some aL.zero.av:=rfl
section
variable {F0:List AId}{G0 G:ak}{ps:List LP}{Q:ah->ak->Prop}
end
end Go.Esc.M
namespace Go.Esc.M
open Go Go.Esc
section
variable {F0:List AId}{G0 G:ak}{ps:List LP}{Q:ah->ak->Prop}
end
end Go.Esc.M
namespace Go.Esc.M
open Go Go.Esc
def uE (rm:Bool) (id:Int) (u:aL):Bool:=decide (u.id=id) && bif rm then decide (u.kind=2) || decide (u.kind=3) else decide (u.kind=1)
def ey (rm:Bool) (id:Int) (l:List aL):Option aL:=l.find? (uE rm id)
def Ec (o:Option aL):ah:=.tuple [(o.getD aL.zero).av,.bool o.isSome]
def oQ (l:List aL):Nat:=(l.filter (fun u=>decide (u.kind=1))).length
theorem lT {rm:Bool}{id:Int}{l:List aL}(h:∀ u∈l,u.ok):((ey rm id l).getD aL.zero).ok:=by
 cases hf:ey rm id l with
 | none=>exact aL.bq
 | some u=>exact h u (List.mem_of_find?_eq_some hf)
theorem A9 {l:List aL}{j:Nat}{u:aL}(h:l[j]?=some u):oQ (l.take (j+1))=oQ (l.take j)+(if u.kind=1 then 1 else 0):=by
 rw[List.take_add_one,h];unfold oQ;rw[List.filter_append,List.length_append];by_cases hk:u.kind=1<;>simp[hk]
theorem EN (l:List aL):oQ l≤l.length:=List.length_filter_le _ _
section
variable {F0:List AId}{G0 G:ak}{ps:List LP}{Q:ah->ak->Prop}
theorem nD {v:ah}{l:List aL}{j:Nat}{u:aL}(h:ff 36 G v (l.map aL.av)) (hj:l[j]?=some u):∃ a,aO T aj v (.int .i64 (j:Int))=some a/\ag T G aG a=some u.av:=
 h.at_ (k:=.i64) (i:=dL) (ie:=cG) (T:=T) (t:=aj) (e:=aG) bT rfl dE (by rw[List.getElem?_map,hj];rfl) rfl
theorem dh {v:ah}{l:List aL}(h:ff 36 G v (l.map aL.av)):fU T G aj v=some (.int .i64 (l.length:Nat)):=by
 rw[h.len (i:=dL) bT rfl,List.length_map]
theorem vX {u:aL}{K:AId->ak->Prop}(hs:Sp F0 G0 ps G) (hu:u.ok) (hK:∀ i G',Sp F0 G0 (au i u.av::ps) G'->K i G'):br G (.own dv) fun i G2=>wg (aF T G2 aG (.ptr i [] 0) u.av) fun G3=>K i G3:=
 jL hs dE (aL.fits hu) (by rw[aL.sz hu];rfl) (aL.okv u) hK
theorem ij.use {v:ah}{l:List aL}{id:Int}{rm:Bool}(hl:ff 36 G v (l.map aL.av)) (hok:∀ u∈l,u.ok) (hlen:l.length≤9223372036854775807) (hQ:∀ G',Ch [] G [] G'->Q (Ec (ey rm id l)) G') :
  al P ij.n [v,.int .i64 id,.bool rm] G Q:=by
 refine ij.sound ?_;unfold ij.S;intro i1 f1;have s1:Sp [] G [au i1 aL.zero.av] _:=(Sp.nil G).row f1 aL.zero.av;refine ae (dh (hl.ch' s1.ch)) ?_;intro R hR;have loop:∀ (n j:Nat) (G':ak),l.length-j=n->j≤l.length->ey rm id (l.drop j)=ey rm id l->Sp [] G [au i1 aL.zero.av] G'->R [.int .i64 id,.bool rm,.ptr i1 [] 0,v,.int .i64 (l.length:Nat),.int .i64 (j:Int)] G':=by
  intro n;induction n with
  | zero=>
   intro j G' hn hj he hs;have:j=l.length:=(by omega);subst this;rw[List.drop_length]at he;refine hR _ _ _ _ _ _ _ ?_;rw[aM,aa,aI];refine⟨fun h=>absurd h (by omega),fun _=>?_⟩;rw[sF,aa];refine jY (i:=0) hs rfl aL.bq aL.bq fun G2 s2=>?_;refine ae (bF (i:=0) s2 rfl aL.bq).2.2.2.2.2 ?_;have:=hQ _ s2.ch;rw[<- he]at this;exact this
  | succ n ih=>
   intro j G' hn hj he hs;obtain⟨u,hu⟩:∃ u,l[j]?=some u:=⟨_,List.getElem?_eq_getElem (by omega)⟩;have huo:=hok u (List.mem_of_getElem? hu);obtain⟨a,ha,hla⟩:=nD (hl.ch' hs.ch) hu;have hdr:l.drop j=u::l.drop (j+1):=by
    obtain⟨hx,rfl⟩:=List.getElem?_eq_some_iff.1 hu;exact List.drop_eq_getElem_cons hx
   rw[hdr,ey,List.find?_cons]at he;refine hR _ _ _ _ _ _ _ ?_;rw[aM,aa,aI];refine⟨fun _=>?_,fun h=>absurd (by omega) h⟩;rw[ha,aa,hla,aa];refine vX hs huo fun i15 G17 s17=>?_;obtain⟨l0,l1,_⟩:=bF (i:=0) s17 rfl huo;intro J36;have yes:uE rm id u=true->J36 (.bool true) G17:=by
    intro h;rw[h]at he;simp -zeta only [J36,aN];refine ae (bF (i:=0) s17 rfl huo).2.2.2.2.2 ?_;refine jY (i:=1) s17 rfl aL.bq huo fun G2 s2=>?_;refine ae (bF (i:=1) s2 rfl huo).2.2.2.2.2 ?_;have:=hQ _ s2.ch;rw[<- he]at this;exact this
   have no:uE rm id u=false->J36 (.bool false) G17:=by
    intro h;rw[h]at he;simp -zeta only [J36,aK];rw[bg,aa,i64_in (by omega) (by omega)];exact ih (j+1) G17 (by omega) (by omega) he (s17.erase 0)
   unfold uE at yes no;rw[l1,aa,bB,aa,aI];refine⟨fun hid=>?_,fun hid=>no (by rw[dF_ hid,Bool.false_and])⟩;rw[dT_ hid,Bool.true_and]at yes no;cases rm with
   | false=>
    rw[cond_false]at yes no;rw[dx,aa,Bool.not_false,aN,l0,aa,bB,aa,aI];refine⟨fun hk=>yes (dT_ hk),fun hk=>?_⟩;rw[aK];exact no (dF_ hk)
   | true=>
    rw[cond_true]at yes no;rw[dx,aa,Bool.not_true,aK,aN,l0,aa,bB,aa,aI];refine⟨fun hk=>yes (by rw[dT_ hk,Bool.true_or]),fun hk=>?_⟩;rw[dF_ hk,Bool.false_or]at yes no;rw[aa,bB,aa];by_cases h3:u.kind=3
    ·rw[dT_ h3];exact yes (dT_ h3)
    ·rw[dF_ h3];exact no (dF_ h3)
 exact loop _ 0 _ rfl (by omega) (by simp) s1
theorem z6 (o:Option aL):aP (Ec o) 0=some (o.getD aL.zero).av:=rfl
theorem zZ (o:Option aL):aP (Ec o) 1=some (.bool o.isSome):=rfl
theorem ik.use {v:ah}{l:List aL}{id:Int}(hl:ff 36 G v (l.map aL.av)) (hok:∀ u∈l,u.ok) (hlen:l.length≤9223372036854775807) (hQ:∀ G',Ch [] G [] G'->Q (Ec (ey false id l)) G') :
  al P ik.n [v,.int .i64 id] G Q:=by
 refine ik.sound ?_;unfold ik.S;intro i1 f1;have s1:Sp [] G [au i1 aL.zero.av] _:=(Sp.nil G).row f1 aL.zero.av;refine ij.use (hl.ch' s1.ch) hok hlen fun G4 c4=>?_;have s4:=s1.tmp c4;have hf:=lT (rm:=false) (id:=id) hok;rw[z6,aa,zZ,aa];refine jY (i:=0) s4 rfl aL.bq hf fun G2 s2=>?_;refine ae (bF (i:=0) s2 rfl hf).2.2.2.2.2 ?_;exact hQ _ s2.ch
theorem gn.use {v:ah}{l:List aL}{id:Int}(hl:ff 36 G v (l.map aL.av)) (hok:∀ u∈l,u.ok) (hlen:l.length≤9223372036854775807) (hQ:∀ G',Ch [] G [] G'->Q (Ec (ey true id l)) G') :
  al P gn.n [v,.int .i64 id] G Q:=by
 refine gn.sound ?_;unfold gn.S;intro i1 f1;have s1:Sp [] G [au i1 aL.zero.av] _:=(Sp.nil G).row f1 aL.zero.av;refine ij.use (hl.ch' s1.ch) hok hlen fun G4 c4=>?_;have s4:=s1.tmp c4;have hf:=lT (rm:=true) (id:=id) hok;rw[z6,aa,zZ,aa];refine jY (i:=0) s4 rfl aL.bq hf fun G2 s2=>?_;refine ae (bF (i:=0) s2 rfl hf).2.2.2.2.2 ?_;exact hQ _ s2.ch
theorem jo.use {v:ah}{l:List aL}(hl:ff 36 G v (l.map aL.av)) (hok:∀ u∈l,u.ok) (hlen:l.length≤9223372036854775807) (hQ:∀ G',Ch [] G [] G'->Q (.int .i64 (oQ l:Nat)) G') :
  al P jo.n [v] G Q:=by
 refine jo.sound ?_;unfold jo.S;refine ae (dh hl) ?_;intro R hR;have loop:∀ (n j:Nat) (G':ak),l.length-j=n->j≤l.length->Sp [] G [] G'->R [.int .i64 (oQ (l.take j):Nat),v,.int .i64 (l.length:Nat),.int .i64 (j:Int)] G':=by
  intro n;induction n with
  | zero=>
   intro j G' hn hj hs;have:j=l.length:=(by omega);subst this;refine hR _ _ _ _ _ ?_;rw[aM,aa,aI];refine⟨fun h=>absurd h (by omega),fun _=>?_⟩;rw[List.take_length];exact hQ _ hs.ch
  | succ n ih=>
   intro j G' hn hj hs;obtain⟨u,hu⟩:∃ u,l[j]?=some u:=⟨_,List.getElem?_eq_getElem (by omega)⟩;have huo:=hok u (List.mem_of_getElem? hu);obtain⟨a,ha,hla⟩:=nD (hl.ch' hs.ch) hu;have ht:=A9 hu;have hle:=EN (l.take j);have hlj:(l.take j).length≤j:=List.length_take_le _ _;refine hR _ _ _ _ _ ?_;rw[aM,aa,aI];refine⟨fun _=>?_,fun h=>absurd (by omega) h⟩;rw[ha,aa,hla,aa];refine vX hs huo fun i11 G13 s13=>?_;refine ae (bF (i:=0) s13 rfl huo).1 ?_;rw[bB,aa,aI];refine⟨fun hk=>?_,fun hk=>?_⟩
   ·rw[if_pos hk]at ht;rw[bg,aa,i64_in (by omega) (by omega),bg,aa,i64_in (by omega) (by omega),show ((oQ (l.take j):Nat):Int)+1=((oQ (l.take (j+1)):Nat):Int) by omega];exact ih (j+1) G13 (by omega) (by omega) (s13.erase 0)
   ·rw[if_neg hk]at ht;rw[bg,aa,i64_in (by omega) (by omega),show oQ (l.take j)=oQ (l.take (j+1)) by omega];exact ih (j+1) G13 (by omega) (by omega) (s13.erase 0)
 exact loop _ 0 G rfl (by omega) (Sp.nil G)
end
end Go.Esc.M
