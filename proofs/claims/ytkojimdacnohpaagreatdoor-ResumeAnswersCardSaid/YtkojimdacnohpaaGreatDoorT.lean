import Derived.Test.YtkojimdacnohpaaGreatDoorProg
import Derived.Test.YtkojimdacnohpaaGreatDoorER
set_option linter.unusedSimpArgs false
set_option linter.unusedVariables false
namespace Go.Esc.M
open Go Go.Esc Go.Proofs
def me:TypeId:=2
def au:TypeId:=3
def ey:TypeId:=4
def cg:TypeId:=5
def bH:TypeId:=9
def aj:TypeId:=23
def cL:TypeId:=24
def dj:TypeId:=26
def iq:TypeId:=27
def L8:TypeId:=28
def ak:TypeId:=33
def bG:TypeId:=35
def bu:TypeId:=36
def aJ:TypeId:=38
def cl:TypeId:=41
def fD:TypeId:=42
def gY:TypeId:=43
def aR:TypeId:=44
def bw:TypeId:=46
def aG:TypeId:=48
def L9:TypeId:=54
def gJ:TypeId:=57
def bq:TypeId:=66
def aI:TypeId:=76
def aD:TypeId:=78
def aP:TypeId:=85
def ff:TypeId:=100
def jE:TypeId:=108
def aq:TypeId:=124
def bc:TypeId:=126
def aU:TypeId:=130
def im:TypeId:=131
def jd:TypeId:=133
def az:TypeId:=134
def bg:TypeId:=135
def bT:TypeId:=136
def kQ:TypeId:=157
def ck:TypeId:=178
def ju:TypeId:=181
def nW:TypeId:=196
def yq:TypeId:=217
def nm:TypeId:=219
def aY:TypeId:=231
def ko:TypeId:=238
def kj:TypeId:=239
def fF:TypeId:=241
def j5:TypeId:=255
def Jg:ag:=.int .i64 0
def jy:TI:=⟨.int .i64,1,8,Jg⟩
def K3:ag:=.int .i64 0
def mf:TI:=⟨.int .i64,1,8,K3⟩
def Kr:ag:=.bool false
def sB:TI:=⟨.bool,1,1,Kr⟩
def Jf:ag:=.int .u8 0
def fY:TI:=⟨.int .u8,1,1,Jf⟩
def Hv:ag:=.str []
def iO:TI:=⟨.string,1,16,Hv⟩
def cI:ag:=.agg (List.replicate 32 (.int .u8 0))
def fE:TI:=⟨.array 32 cg,32,32,cI⟩
def xX:ag:=.agg (List.replicate 2 (.agg (List.replicate 32 (.int .u8 0))))
def kE:TI:=⟨.array 2 aj,64,64,xX⟩
def pc:ag:=.agg [.int .i64 0,.int .i64 0,.agg (List.replicate 2 (.agg (List.replicate 32 (.int .u8 0)))),.agg (List.replicate 2 (.agg (List.replicate 32 (.int .u8 0))))]
def j2:TI:=⟨.struct [(me,0),(me,1),(cL,2),(cL,66)],130,144,pc⟩
def tj:ag:=.nilSlice
def jM:TI:=⟨.slice gJ,1,24,tj⟩
def Mi:ag:=.nilSlice
def Mb:TI:=⟨.slice L9,1,24,Mi⟩
def xt:ag:=.nilSlice
def fl:TI:=⟨.slice aI,1,24,xt⟩
def kG:ag:=.agg [.int .i64 0,.int .i64 0]
def n7:TI:=⟨.struct [(au,0),(au,1)],2,16,kG⟩
def zG:ag:=.nilSlice
def jN:TI:=⟨.slice ff,1,24,zG⟩
def iT:ag:=.agg [.int .i64 0,.int .i64 0,.int .i64 0,.int .i64 0,.nilSlice,.nilSlice,.int .i64 0,.int .i64 0,.int .i64 0,.agg [.int .i64 0,.int .i64 0],.agg [.int .i64 0,.int .i64 0],.agg [.int .i64 0,.int .i64 0],.bool false,.agg (List.replicate 2 (.agg (List.replicate 32 (.int .u8 0)))),.agg (List.replicate 32 (.int .u8 0)),.nilSlice,.int .i64 0,.int .i64 0]
def nA:TI:=⟨.struct [(au,0),(me,1),(me,2),(me,3),(ak,4),(ak,5),(me,6),(me,7),(me,8),(bG,9),(bG,11),(bG,13),(ey,15),(cL,16),(aj,80),(bu,112),(au,113),(me,114)],115,296,iT⟩
def nz:ag:=.agg [.int .i64 0,.int .i64 0,.int .i64 0,.agg (List.replicate 32 (.int .u8 0)),.agg (List.replicate 32 (.int .u8 0)),.agg (List.replicate 32 (.int .u8 0)),.agg (List.replicate 2 (.agg (List.replicate 32 (.int .u8 0)))),.int .i64 0]
def lN:TI:=⟨.struct [(au,0),(me,1),(me,2),(aj,3),(aj,35),(aj,67),(cL,99),(au,163)],164,192,nz⟩
def mn:ag:=.agg (List.replicate 2 (.agg [.int .i64 0,.int .i64 0,.int .i64 0,.agg (List.replicate 32 (.int .u8 0)),.agg (List.replicate 32 (.int .u8 0)),.agg (List.replicate 32 (.int .u8 0)),.agg (List.replicate 2 (.agg (List.replicate 32 (.int .u8 0)))),.int .i64 0]))
def jV:TI:=⟨.array 2 cl,328,384,mn⟩
def xw:ag:=.agg (List.replicate 2 (.agg [.int .i64 0,.int .i64 0,.int .i64 0,.int .i64 0,.nilSlice,.nilSlice,.int .i64 0,.int .i64 0,.int .i64 0,.agg [.int .i64 0,.int .i64 0],.agg [.int .i64 0,.int .i64 0],.agg [.int .i64 0,.int .i64 0],.bool false,.agg (List.replicate 2 (.agg (List.replicate 32 (.int .u8 0)))),.agg (List.replicate 32 (.int .u8 0)),.nilSlice,.int .i64 0,.int .i64 0]))
def nV:TI:=⟨.array 2 aJ,230,592,xw⟩
def nR:ag:=.nilSlice
def fO:TI:=⟨.slice aG,1,24,nR⟩
def tl:ag:=.agg [.agg (List.replicate 2 (.agg [.int .i64 0,.int .i64 0,.int .i64 0,.agg (List.replicate 32 (.int .u8 0)),.agg (List.replicate 32 (.int .u8 0)),.agg (List.replicate 32 (.int .u8 0)),.agg (List.replicate 2 (.agg (List.replicate 32 (.int .u8 0)))),.int .i64 0])),.agg (List.replicate 2 (.agg [.int .i64 0,.int .i64 0,.int .i64 0,.int .i64 0,.nilSlice,.nilSlice,.int .i64 0,.int .i64 0,.int .i64 0,.agg [.int .i64 0,.int .i64 0],.agg [.int .i64 0,.int .i64 0],.agg [.int .i64 0,.int .i64 0],.bool false,.agg (List.replicate 2 (.agg (List.replicate 32 (.int .u8 0)))),.agg (List.replicate 32 (.int .u8 0)),.nilSlice,.int .i64 0,.int .i64 0])),.nilSlice,.nilSlice]
def mg:TI:=⟨.struct [(fD,0),(gY,328),(aR,558),(aR,559)],560,1024,tl⟩
def gE:ag:=.agg [.int .i64 0,.int .i64 0,.int .i64 0,.int .i64 0,.int .i64 0,.agg (List.replicate 32 (.int .u8 0)),.agg (List.replicate 32 (.int .u8 0)),.str []]
def fe:TI:=⟨.struct [(au,0),(me,1),(me,2),(me,3),(me,4),(aj,5),(aj,37),(bH,69)],70,120,gE⟩
def Mg:ag:=.agg [.int .i64 0,.int .i64 0,.bool false,.agg (List.replicate 32 (.int .u8 0)),.bool false,.int .i64 0]
def Mc:TI:=⟨.struct [(me,0),(me,1),(ey,2),(aj,3),(ey,35),(au,36)],37,64,Mg⟩
def qf:ag:=.agg [.int .i64 0,.bool false,.int .i64 0,.int .i64 0,.agg (List.replicate 32 (.int .u8 0)),.str [],.int .i64 0]
def jU:TI:=⟨.struct [(au,0),(ey,1),(me,2),(me,3),(aj,4),(bH,36),(me,37)],38,88,qf⟩
def Ca:ag:=.int .i64 0
def qR:TI:=⟨.int .i64,1,8,Ca⟩
def gy:ag:=.agg [.int .i64 0,.int .i64 0,.int .i64 0,.agg (List.replicate 32 (.int .u8 0)),.str []]
def dA:TI:=⟨.struct [(au,0),(me,1),(me,2),(aj,3),(bH,35)],36,72,gy⟩
def iY:ag:=.agg [.int .i64 0,.agg [.int .i64 0,.int .i64 0,.int .i64 0,.agg (List.replicate 32 (.int .u8 0)),.str []],.nilSlice,.int .i64 0,.agg [.int .i64 0,.int .i64 0],.agg (List.replicate 32 (.int .u8 0)),.agg (List.replicate 32 (.int .u8 0)),.agg (List.replicate 32 (.int .u8 0)),.int .i64 0]
def mQ:TI:=⟨.struct [(au,0),(aI,1),(ak,37),(me,38),(bG,39),(aj,41),(aj,73),(aj,105),(au,137)],138,232,iY⟩
def DJ:ag:=.nilSlice
def fS:TI:=⟨.slice cg,1,24,DJ⟩
def pe:ag:=.agg [.int .i64 0,.agg (List.replicate 32 (.int .u8 0)),.bool false]
def kI:TI:=⟨.struct [(me,0),(aj,1),(ey,33)],34,48,pe⟩
def nS:ag:=.agg (List.replicate 48 (.int .i64 0))
def oq:TI:=⟨.array 48 au,48,384,nS⟩
def vn:ag:=.nilSlice
def bU:TI:=⟨.slice aU,1,24,vn⟩
def iZ:ag:=.agg [.int .i64 0,.int .i64 0,.nilSlice]
def kb:TI:=⟨.struct [(me,0),(me,1),(aq,2)],3,40,iZ⟩
def iX:ag:=.agg [.bool false,.int .i64 0,.int .i64 0,.agg (List.replicate 32 (.int .u8 0))]
def eB:TI:=⟨.struct [(ey,0),(me,1),(me,2),(aj,3)],35,56,iX⟩
def B9:ag:=.nilSlice
def jm:TI:=⟨.slice bH,1,24,B9⟩
def Hs:ag:=.int .u64 0
def vD:TI:=⟨.int .u64,1,8,Hs⟩
def Ht:ag:=.int .u32 0
def vE:TI:=⟨.int .u32,1,4,Ht⟩
def kF:ag:=.agg (List.replicate 8 (.int .u32 0))
def pZ:TI:=⟨.array 8 az,8,32,kF⟩
def gK:ag:=.agg (List.replicate 64 (.int .u32 0))
def pj:TI:=⟨.array 64 az,64,256,gK⟩
def Kq:ag:=.int .u64 0
def Bi:TI:=⟨.int .u64,1,8,Kq⟩
def ka:ag:=.agg [.int .i64 0,.int .i64 0]
def ph:TI:=⟨.struct [(me,0),(me,1)],2,16,ka⟩
def xu:ag:=.nilMap
def kh:TI:=⟨.map me au,1,8,xu⟩
def DK:ag:=.nilSlice
def nj:TI:=⟨.slice me,1,24,DK⟩
def Hu:ag:=.int .u16 0
def vF:TI:=⟨.int .u16,1,2,Hu⟩
def F3:ag:=.nilSlice
def nT:TI:=⟨.slice ey,1,24,F3⟩
def iJ:ag:=.agg [.int .i64 0,.int .i64 0]
def mJ:TI:=⟨.struct [(me,0),(me,1)],2,16,iJ⟩
def xW:ag:=.nilMap
def kD:TI:=⟨.map ey au,1,8,xW⟩
def vq:ag:=.nilMap
def jn:TI:=⟨.map ey me,1,8,vq⟩
def xv:ag:=.agg [.nilSlice,.int .i64 0]
def nU:TI:=⟨.struct [(aP,0),(bq,1)],2,32,xv⟩
def qI:ag:=.agg (List.replicate 64 (.int .u8 0))
def mP:TI:=⟨.array 64 cg,64,64,qI⟩
noncomputable abbrev P:Program:=Tryz.prog
theorem DZ:fQ P 2 jy:=fQ.mk' (by kernel_rfl) (by kernel_rfl) (by kernel_rfl) (by kernel_rfl)
theorem HD:fQ P 3 mf:=fQ.mk' (by kernel_rfl) (by kernel_rfl) (by kernel_rfl) (by kernel_rfl)
theorem Ge:fQ P 4 sB:=fQ.mk' (by kernel_rfl) (by kernel_rfl) (by kernel_rfl) (by kernel_rfl)
theorem DY:fQ P 5 fY:=fQ.mk' (by kernel_rfl) (by kernel_rfl) (by kernel_rfl) (by kernel_rfl)
theorem Cy:fQ P 9 iO:=fQ.mk' (by kernel_rfl) (by kernel_rfl) (by kernel_rfl) (by kernel_rfl)
theorem zM:fQ P 23 fE:=fQ.mk' (by kernel_rfl) (by kernel_rfl) (by kernel_rfl) (by kernel_rfl)
theorem uv:fQ P 24 kE:=fQ.mk' (by kernel_rfl) (by kernel_rfl) (by kernel_rfl) (by kernel_rfl)
theorem rF:fQ P 26 j2:=fQ.mk' (by kernel_rfl) (by kernel_rfl) (by kernel_rfl) (by kernel_rfl)
theorem qP:fQ P 27 jM:=fQ.mk' (by kernel_rfl) (by kernel_rfl) (by kernel_rfl) (by kernel_rfl)
theorem Mh:fQ P 28 Mb:=fQ.mk' (by kernel_rfl) (by kernel_rfl) (by kernel_rfl) (by kernel_rfl)
theorem tH:fQ P 33 fl:=fQ.mk' (by kernel_rfl) (by kernel_rfl) (by kernel_rfl) (by kernel_rfl)
theorem xD:fQ P 35 n7:=fQ.mk' (by kernel_rfl) (by kernel_rfl) (by kernel_rfl) (by kernel_rfl)
theorem vw:fQ P 36 jN:=fQ.mk' (by kernel_rfl) (by kernel_rfl) (by kernel_rfl) (by kernel_rfl)
theorem yk:fQ P 38 nA:=fQ.mk' (by kernel_rfl) (by kernel_rfl) (by kernel_rfl) (by kernel_rfl)
theorem xE:fQ P 41 lN:=fQ.mk' (by kernel_rfl) (by kernel_rfl) (by kernel_rfl) (by kernel_rfl)
theorem tt:fQ P 42 jV:=fQ.mk' (by kernel_rfl) (by kernel_rfl) (by kernel_rfl) (by kernel_rfl)
theorem tK:fQ P 43 nV:=fQ.mk' (by kernel_rfl) (by kernel_rfl) (by kernel_rfl) (by kernel_rfl)
theorem tn:fQ P 44 fO:=fQ.mk' (by kernel_rfl) (by kernel_rfl) (by kernel_rfl) (by kernel_rfl)
theorem qQ:fQ P 46 mg:=fQ.mk' (by kernel_rfl) (by kernel_rfl) (by kernel_rfl) (by kernel_rfl)
theorem vC:fQ P 48 fe:=fQ.mk' (by kernel_rfl) (by kernel_rfl) (by kernel_rfl) (by kernel_rfl)
theorem Mj:fQ P 54 Mc:=fQ.mk' (by kernel_rfl) (by kernel_rfl) (by kernel_rfl) (by kernel_rfl)
theorem tq:fQ P 57 jU:=fQ.mk' (by kernel_rfl) (by kernel_rfl) (by kernel_rfl) (by kernel_rfl)
theorem yl:fQ P 66 qR:=fQ.mk' (by kernel_rfl) (by kernel_rfl) (by kernel_rfl) (by kernel_rfl)
theorem xA:fQ P 76 dA:=fQ.mk' (by kernel_rfl) (by kernel_rfl) (by kernel_rfl) (by kernel_rfl)
theorem xB:fQ P 78 mQ:=fQ.mk' (by kernel_rfl) (by kernel_rfl) (by kernel_rfl) (by kernel_rfl)
theorem zI:fQ P 85 fS:=fQ.mk' (by kernel_rfl) (by kernel_rfl) (by kernel_rfl) (by kernel_rfl)
theorem zL:fQ P 100 kI:=fQ.mk' (by kernel_rfl) (by kernel_rfl) (by kernel_rfl) (by kernel_rfl)
theorem zK:fQ P 108 oq:=fQ.mk' (by kernel_rfl) (by kernel_rfl) (by kernel_rfl) (by kernel_rfl)
theorem tm:fQ P 124 bU:=fQ.mk' (by kernel_rfl) (by kernel_rfl) (by kernel_rfl) (by kernel_rfl)
theorem xC:fQ P 126 kb:=fQ.mk' (by kernel_rfl) (by kernel_rfl) (by kernel_rfl) (by kernel_rfl)
theorem vz:fQ P 130 eB:=fQ.mk' (by kernel_rfl) (by kernel_rfl) (by kernel_rfl) (by kernel_rfl)
theorem yj:fQ P 131 jm:=fQ.mk' (by kernel_rfl) (by kernel_rfl) (by kernel_rfl) (by kernel_rfl)
theorem Cu:fQ P 133 vD:=fQ.mk' (by kernel_rfl) (by kernel_rfl) (by kernel_rfl) (by kernel_rfl)
theorem Cv:fQ P 134 vE:=fQ.mk' (by kernel_rfl) (by kernel_rfl) (by kernel_rfl) (by kernel_rfl)
theorem xx:fQ P 135 pZ:=fQ.mk' (by kernel_rfl) (by kernel_rfl) (by kernel_rfl) (by kernel_rfl)
theorem vy:fQ P 136 pj:=fQ.mk' (by kernel_rfl) (by kernel_rfl) (by kernel_rfl) (by kernel_rfl)
theorem Gd:fQ P 157 Bi:=fQ.mk' (by kernel_rfl) (by kernel_rfl) (by kernel_rfl) (by kernel_rfl)
theorem vx:fQ P 178 ph:=fQ.mk' (by kernel_rfl) (by kernel_rfl) (by kernel_rfl) (by kernel_rfl)
theorem tI:fQ P 181 kh:=fQ.mk' (by kernel_rfl) (by kernel_rfl) (by kernel_rfl) (by kernel_rfl)
theorem zJ:fQ P 196 nj:=fQ.mk' (by kernel_rfl) (by kernel_rfl) (by kernel_rfl) (by kernel_rfl)
theorem Cw:fQ P 217 vF:=fQ.mk' (by kernel_rfl) (by kernel_rfl) (by kernel_rfl) (by kernel_rfl)
theorem Bh:fQ P 219 nT:=fQ.mk' (by kernel_rfl) (by kernel_rfl) (by kernel_rfl) (by kernel_rfl)
theorem rE:fQ P 231 mJ:=fQ.mk' (by kernel_rfl) (by kernel_rfl) (by kernel_rfl) (by kernel_rfl)
theorem uu:fQ P 238 kD:=fQ.mk' (by kernel_rfl) (by kernel_rfl) (by kernel_rfl) (by kernel_rfl)
theorem tp:fQ P 239 jn:=fQ.mk' (by kernel_rfl) (by kernel_rfl) (by kernel_rfl) (by kernel_rfl)
theorem tJ:fQ P 241 nU:=fQ.mk' (by kernel_rfl) (by kernel_rfl) (by kernel_rfl) (by kernel_rfl)
theorem xy:fQ P 255 mP:=fQ.mk' (by kernel_rfl) (by kernel_rfl) (by kernel_rfl) (by kernel_rfl)
def T:Tbl:=(Tbl.cons 2 jy (Tbl.cons 3 mf (Tbl.cons 4 sB (Tbl.cons 5 fY (Tbl.cons 9 iO (Tbl.cons 23 fE (Tbl.cons 24 kE (Tbl.cons 26 j2 (Tbl.cons 27 jM (Tbl.cons 28 Mb (Tbl.cons 33 fl (Tbl.cons 35 n7 (Tbl.cons 36 jN (Tbl.cons 38 nA (Tbl.cons 41 lN (Tbl.cons 42 jV (Tbl.cons 43 nV (Tbl.cons 44 fO (Tbl.cons 46 mg (Tbl.cons 48 fe (Tbl.cons 54 Mc (Tbl.cons 57 jU (Tbl.cons 66 qR (Tbl.cons 76 dA (Tbl.cons 78 mQ (Tbl.cons 85 fS (Tbl.cons 100 kI (Tbl.cons 108 oq (Tbl.cons 124 bU (Tbl.cons 126 kb (Tbl.cons 130 eB (Tbl.cons 131 jm (Tbl.cons 133 vD (Tbl.cons 134 vE (Tbl.cons 135 pZ (Tbl.cons 136 pj (Tbl.cons 157 Bi (Tbl.cons 178 ph (Tbl.cons 181 kh (Tbl.cons 196 nj (Tbl.cons 217 vF (Tbl.cons 219 nT (Tbl.cons 231 mJ (Tbl.cons 238 kD (Tbl.cons 239 jn (Tbl.cons 241 nU (Tbl.cons 255 mP Tbl.nil)))))))))))))))))))))))))))))))))))))))))))))))
theorem Kb:gl P T:=(gl.cons DZ (gl.cons HD (gl.cons Ge (gl.cons DY (gl.cons Cy (gl.cons zM (gl.cons uv (gl.cons rF (gl.cons qP (gl.cons Mh (gl.cons tH (gl.cons xD (gl.cons vw (gl.cons yk (gl.cons xE (gl.cons tt (gl.cons tK (gl.cons tn (gl.cons qQ (gl.cons vC (gl.cons Mj (gl.cons tq (gl.cons yl (gl.cons xA (gl.cons xB (gl.cons zI (gl.cons zL (gl.cons zK (gl.cons tm (gl.cons xC (gl.cons vz (gl.cons yj (gl.cons Cu (gl.cons Cv (gl.cons xx (gl.cons vy (gl.cons Gd (gl.cons vx (gl.cons tI (gl.cons zJ (gl.cons Cw (gl.cons Bh (gl.cons rE (gl.cons uu (gl.cons tp (gl.cons tJ (gl.cons xy gl.nil)))))))))))))))))))))))))))))))))))))))))))))))
theorem cA:T me = some jy:=rfl
theorem hO:T au = some mf:=rfl
theorem kC:T ey = some sB:=rfl
theorem dz:T cg = some fY:=rfl
theorem fZ:T bH = some iO:=rfl
theorem cd:T aj = some fE:=rfl
theorem lg:T cL = some kE:=rfl
theorem lJ:T dj = some j2:=rfl
theorem mM:T iq = some jM:=rfl
theorem Me:T L8 = some Mb:=rfl
theorem cn:T ak = some fl:=rfl
theorem fR:T bG = some n7:=rfl
theorem iL:T bu = some jN:=rfl
theorem lE:T aJ = some nA:=rfl
theorem j9:T cl = some lN:=rfl
theorem mF:T fD = some jV:=rfl
theorem Hr:T gY = some nV:=rfl
theorem zc:T aR = some fO:=rfl
theorem tv:T bw = some mg:=rfl
theorem dB:T aG = some fe:=rfl
theorem Ma:T L9 = some Mc:=rfl
theorem jH:T gJ = some jU:=rfl
theorem sk:T bq = some qR:=rfl
theorem fC:T aI = some dA:=rfl
theorem oV:T aD = some mQ:=rfl
theorem fu:T aP = some fS:=rfl
theorem ky:T ff = some kI:=rfl
theorem j0:T jE = some oq:=rfl
theorem cq:T aq = some bU:=rfl
theorem mG:T bc = some kb:=rfl
theorem fk:T aU = some eB:=rfl
theorem lD:T im = some jm:=rfl
theorem mW:T jd = some vD:=rfl
theorem jS:T az = some vE:=rfl
theorem ry:T bg = some pZ:=rfl
theorem iM:T bT = some pj:=rfl
theorem B7:T kQ = some Bi:=rfl
theorem fG:T ck = some ph:=rfl
theorem oM:T ju = some kh:=rfl
theorem uh:T nW = some nj:=rfl
theorem DH:T yq = some vF:=rfl
theorem wE:T nm = some nT:=rfl
theorem b8:T aY = some mJ:=rfl
theorem pI:T ko = some kD:=rfl
theorem mE:T kj = some jn:=rfl
theorem Hq:T fF = some nU:=rfl
theorem rz:T j5 = some mP:=rfl
noncomputable def cx:Cx:=⟨P,T,fun _ _=>none⟩
theorem dO:DI cx:=⟨Kb,fun _ _ _ h=>by cases h⟩
abbrev iQ:AId:=⟨0,0,0⟩
abbrev zF:AId:=⟨1,0,0⟩
theorem mixed:P.follows .mixedOrders = true:=by kernel_rfl
theorem aF {c:Code} {an:Ann} (h:rB cx c an = true) (_:(0:Nat) = 0):nL cx c an:=Mm dO mixed c an h
def gH.n:FuncId:=162
noncomputable def gH.body:Code:=(Tryz.f162.body).getD .skip
def fU.n:FuncId:=163
noncomputable def fU.body:Code:=(Tryz.f163.body).getD .skip
def cC.n:FuncId:=202
noncomputable def cC.body:Code:=(Tryz.f202.body).getD .skip
def iv.n:FuncId:=161
noncomputable def iv.body:Code:=(Tryz.f161.body).getD .skip
def fL.n:FuncId:=75
noncomputable def fL.body:Code:=(Tryz.f75.body).getD .skip
def bt.n:FuncId:=141
noncomputable def bt.body:Code:=(Tryz.f141.body).getD .skip
def gf.n:FuncId:=140
noncomputable def gf.body:Code:=(Tryz.f140.body).getD .skip
def gR.n:FuncId:=76
noncomputable def gR.body:Code:=(Tryz.f76.body).getD .skip
def iK.n:FuncId:=30
noncomputable def iK.body:Code:=(Tryz.f30.body).getD .skip
def gZ.n:FuncId:=114
noncomputable def gZ.body:Code:=(Tryz.f114.body).getD .skip
def iG.n:FuncId:=164
noncomputable def iG.body:Code:=(Tryz.f164.body).getD .skip
def gM.n:FuncId:=102
noncomputable def gM.body:Code:=(Tryz.f102.body).getD .skip
def iV.n:FuncId:=43
noncomputable def iV.body:Code:=(Tryz.f43.body).getD .skip
def gz.n:FuncId:=13
noncomputable def gz.body:Code:=(Tryz.f13.body).getD .skip
def cw.n:FuncId:=54
noncomputable def cw.body:Code:=(Tryz.f54.body).getD .skip
def dw.n:FuncId:=83
noncomputable def dw.body:Code:=(Tryz.f83.body).getD .skip
def dv.n:FuncId:=146
noncomputable def dv.body:Code:=(Tryz.f146.body).getD .skip
def bF.n:FuncId:=147
noncomputable def bF.body:Code:=(Tryz.f147.body).getD .skip
def dZ.n:FuncId:=84
noncomputable def dZ.body:Code:=(Tryz.f84.body).getD .skip
def cK.n:FuncId:=35
noncomputable def cK.body:Code:=(Tryz.f35.body).getD .skip
def eI.n:FuncId:=169
noncomputable def eI.body:Code:=(Tryz.f169.body).getD .skip
def bW.n:FuncId:=111
noncomputable def bW.body:Code:=(Tryz.f111.body).getD .skip
def dL.n:FuncId:=55
noncomputable def dL.body:Code:=(Tryz.f55.body).getD .skip
def cj.n:FuncId:=56
noncomputable def cj.body:Code:=(Tryz.f56.body).getD .skip
def bJ.n:FuncId:=21
noncomputable def bJ.body:Code:=(Tryz.f21.body).getD .skip
def gj.n:FuncId:=113
noncomputable def gj.body:Code:=(Tryz.f113.body).getD .skip
def gb.n:FuncId:=112
noncomputable def gb.body:Code:=(Tryz.f112.body).getD .skip
def gd.n:FuncId:=57
noncomputable def gd.body:Code:=(Tryz.f57.body).getD .skip
def lR.n:FuncId:=59
noncomputable def lR.body:Code:=(Tryz.f59.body).getD .skip
def eE.n:FuncId:=58
noncomputable def eE.body:Code:=(Tryz.f58.body).getD .skip
def gB.n:FuncId:=61
noncomputable def gB.body:Code:=(Tryz.f61.body).getD .skip
def eC.n:FuncId:=60
noncomputable def eC.body:Code:=(Tryz.f60.body).getD .skip
def fI.n:FuncId:=86
noncomputable def fI.body:Code:=(Tryz.f86.body).getD .skip
def gW.n:FuncId:=185
noncomputable def gW.body:Code:=(Tryz.f185.body).getD .skip
def iz.n:FuncId:=130
noncomputable def iz.body:Code:=(Tryz.f130.body).getD .skip
def aZ.n:FuncId:=186
noncomputable def aZ.body:Code:=(Tryz.f186.body).getD .skip
def aO.n:FuncId:=131
noncomputable def aO.body:Code:=(Tryz.f131.body).getD .skip
def fX.n:FuncId:=181
noncomputable def fX.body:Code:=(Tryz.f181.body).getD .skip
def fq.n:FuncId:=132
noncomputable def fq.body:Code:=(Tryz.f132.body).getD .skip
def cR.n:FuncId:=135
noncomputable def cR.body:Code:=(Tryz.f135.body).getD .skip
def dR.n:FuncId:=179
noncomputable def dR.body:Code:=(Tryz.f179.body).getD .skip
def aV.n:FuncId:=222
noncomputable def aV.body:Code:=(Tryz.f222.body).getD .skip
def bd.n:FuncId:=225
noncomputable def bd.body:Code:=(Tryz.f225.body).getD .skip
def bn.n:FuncId:=224
noncomputable def bn.body:Code:=(Tryz.f224.body).getD .skip
def aT.n:FuncId:=223
noncomputable def aT.body:Code:=(Tryz.f223.body).getD .skip
def bm.n:FuncId:=212
noncomputable def bm.body:Code:=(Tryz.f212.body).getD .skip
def aN.n:FuncId:=187
noncomputable def aN.body:Code:=(Tryz.f187.body).getD .skip
def eK.n:FuncId:=213
noncomputable def eK.body:Code:=(Tryz.f213.body).getD .skip
def eo.n:FuncId:=189
noncomputable def eo.body:Code:=(Tryz.f189.body).getD .skip
def fP.n:FuncId:=188
noncomputable def fP.body:Code:=(Tryz.f188.body).getD .skip
def gD.n:FuncId:=133
noncomputable def gD.body:Code:=(Tryz.f133.body).getD .skip
def eF.n:FuncId:=134
noncomputable def eF.body:Code:=(Tryz.f134.body).getD .skip
def cZ.n:FuncId:=136
noncomputable def cZ.body:Code:=(Tryz.f136.body).getD .skip
def gP.n:FuncId:=73
noncomputable def gP.body:Code:=(Tryz.f73.body).getD .skip
def gC.n:FuncId:=170
noncomputable def gC.body:Code:=(Tryz.f170.body).getD .skip
def iy.n:FuncId:=171
noncomputable def iy.body:Code:=(Tryz.f171.body).getD .skip
def eZ.n:FuncId:=207
noncomputable def eZ.body:Code:=(Tryz.f207.body).getD .skip
def dg.n:FuncId:=172
noncomputable def dg.body:Code:=(Tryz.f172.body).getD .skip
def eg.n:FuncId:=208
noncomputable def eg.body:Code:=(Tryz.f208.body).getD .skip
def bZ.n:FuncId:=173
noncomputable def bZ.body:Code:=(Tryz.f173.body).getD .skip
def ek.n:FuncId:=209
noncomputable def ek.body:Code:=(Tryz.f209.body).getD .skip
def cG.n:FuncId:=174
noncomputable def cG.body:Code:=(Tryz.f174.body).getD .skip
def eh.n:FuncId:=210
noncomputable def eh.body:Code:=(Tryz.f210.body).getD .skip
def eL.n:FuncId:=175
noncomputable def eL.body:Code:=(Tryz.f175.body).getD .skip
def en.n:FuncId:=176
noncomputable def en.body:Code:=(Tryz.f176.body).getD .skip
def gV.n:FuncId:=115
noncomputable def gV.body:Code:=(Tryz.f115.body).getD .skip
def gU.n:FuncId:=116
noncomputable def gU.body:Code:=(Tryz.f116.body).getD .skip
def iH.n:FuncId:=211
noncomputable def iH.body:Code:=(Tryz.f211.body).getD .skip
def jB.n:FuncId:=177
noncomputable def jB.body:Code:=(Tryz.f177.body).getD .skip
def iW.n:FuncId:=117
noncomputable def iW.body:Code:=(Tryz.f117.body).getD .skip
def gS.n:FuncId:=62
noncomputable def gS.body:Code:=(Tryz.f62.body).getD .skip
def cW.n:FuncId:=22
noncomputable def cW.body:Code:=(Tryz.f22.body).getD .skip
def cz.n:FuncId:=85
noncomputable def cz.body:Code:=(Tryz.f85.body).getD .skip
def cu.n:FuncId:=36
noncomputable def cu.body:Code:=(Tryz.f36.body).getD .skip
def cH.n:FuncId:=38
noncomputable def cH.body:Code:=(Tryz.f38.body).getD .skip
def eV.n:FuncId:=42
noncomputable def eV.body:Code:=(Tryz.f42.body).getD .skip
def ed.n:FuncId:=10
noncomputable def ed.body:Code:=(Tryz.f10.body).getD .skip
def ef.n:FuncId:=11
noncomputable def ef.body:Code:=(Tryz.f11.body).getD .skip
def dM.n:FuncId:=12
noncomputable def dM.body:Code:=(Tryz.f12.body).getD .skip
def dX.n:FuncId:=103
noncomputable def dX.body:Code:=(Tryz.f103.body).getD .skip
def fM.n:FuncId:=104
noncomputable def fM.body:Code:=(Tryz.f104.body).getD .skip
def dd.n:FuncId:=165
noncomputable def dd.body:Code:=(Tryz.f165.body).getD .skip
def du.n:FuncId:=105
noncomputable def du.body:Code:=(Tryz.f105.body).getD .skip
def LY.n:FuncId:=44
noncomputable def LY.body:Code:=(Tryz.f44.body).getD .skip
def LV.n:FuncId:=14
noncomputable def LV.body:Code:=(Tryz.f14.body).getD .skip
def xd.n:FuncId:=45
noncomputable def xd.body:Code:=(Tryz.f45.body).getD .skip
def xe.n:FuncId:=15
noncomputable def xe.body:Code:=(Tryz.f15.body).getD .skip
def cm.n:FuncId:=195
noncomputable def cm.body:Code:=(Tryz.f195.body).getD .skip
def cy.n:FuncId:=203
noncomputable def cy.body:Code:=(Tryz.f203.body).getD .skip
def db.n:FuncId:=196
noncomputable def db.body:Code:=(Tryz.f196.body).getD .skip
def cU.n:FuncId:=198
noncomputable def cU.body:Code:=(Tryz.f198.body).getD .skip
def cO.n:FuncId:=218
noncomputable def cO.body:Code:=(Tryz.f218.body).getD .skip
def dc.n:FuncId:=219
noncomputable def dc.body:Code:=(Tryz.f219.body).getD .skip
def dt.n:FuncId:=220
noncomputable def dt.body:Code:=(Tryz.f220.body).getD .skip
def dH.n:FuncId:=197
noncomputable def dH.body:Code:=(Tryz.f197.body).getD .skip
def eG.n:FuncId:=199
noncomputable def eG.body:Code:=(Tryz.f199.body).getD .skip
def dI.n:FuncId:=158
noncomputable def dI.body:Code:=(Tryz.f158.body).getD .skip
def da.n:FuncId:=221
noncomputable def da.body:Code:=(Tryz.f221.body).getD .skip
def dV.n:FuncId:=200
noncomputable def dV.body:Code:=(Tryz.f200.body).getD .skip
def b5.n:FuncId:=201
noncomputable def b5.body:Code:=(Tryz.f201.body).getD .skip
def dG.n:FuncId:=159
noncomputable def dG.body:Code:=(Tryz.f159.body).getD .skip
def eQ.n:FuncId:=193
noncomputable def eQ.body:Code:=(Tryz.f193.body).getD .skip
def dm.n:FuncId:=155
noncomputable def dm.body:Code:=(Tryz.f155.body).getD .skip
def eJ.n:FuncId:=216
noncomputable def eJ.body:Code:=(Tryz.f216.body).getD .skip
def ec.n:FuncId:=217
noncomputable def ec.body:Code:=(Tryz.f217.body).getD .skip
def fx.n:FuncId:=194
noncomputable def fx.body:Code:=(Tryz.f194.body).getD .skip
def dK.n:FuncId:=156
noncomputable def dK.body:Code:=(Tryz.f156.body).getD .skip
def dU.n:FuncId:=96
noncomputable def dU.body:Code:=(Tryz.f96.body).getD .skip
def dq.n:FuncId:=98
noncomputable def dq.body:Code:=(Tryz.f98.body).getD .skip
def LU.n:FuncId:=106
noncomputable def LU.body:Code:=(Tryz.f106.body).getD .skip
def LZ.n:FuncId:=166
noncomputable def LZ.body:Code:=(Tryz.f166.body).getD .skip
def xh.n:FuncId:=107
noncomputable def xh.body:Code:=(Tryz.f107.body).getD .skip
def LS.n:FuncId:=46
noncomputable def LS.body:Code:=(Tryz.f46.body).getD .skip
def xp.n:FuncId:=16
noncomputable def xp.body:Code:=(Tryz.f16.body).getD .skip
def LX.n:FuncId:=17
noncomputable def LX.body:Code:=(Tryz.f17.body).getD .skip
def b9.n:FuncId:=24
noncomputable def b9.body:Code:=(Tryz.f24.body).getD .skip
def bB.n:FuncId:=110
noncomputable def bB.body:Code:=(Tryz.f110.body).getD .skip
def fw.n:FuncId:=51
noncomputable def fw.body:Code:=(Tryz.f51.body).getD .skip
def eT.n:FuncId:=204
noncomputable def eT.body:Code:=(Tryz.f204.body).getD .skip
def eR.n:FuncId:=205
noncomputable def eR.body:Code:=(Tryz.f205.body).getD .skip
def cP.n:FuncId:=206
noncomputable def cP.body:Code:=(Tryz.f206.body).getD .skip
def dJ.n:FuncId:=167
noncomputable def dJ.body:Code:=(Tryz.f167.body).getD .skip
def c0.n:FuncId:=128
noncomputable def c0.body:Code:=(Tryz.f128.body).getD .skip
def dY.n:FuncId:=184
noncomputable def dY.body:Code:=(Tryz.f184.body).getD .skip
def eH.n:FuncId:=129
noncomputable def eH.body:Code:=(Tryz.f129.body).getD .skip
def cN.n:FuncId:=70
noncomputable def cN.body:Code:=(Tryz.f70.body).getD .skip
def bL.n:FuncId:=71
noncomputable def bL.body:Code:=(Tryz.f71.body).getD .skip
def cQ.n:FuncId:=72
noncomputable def cQ.body:Code:=(Tryz.f72.body).getD .skip
def bO.n:FuncId:=49
noncomputable def bO.body:Code:=(Tryz.f49.body).getD .skip
def dx.n:FuncId:=69
noncomputable def dx.body:Code:=(Tryz.f69.body).getD .skip
def eO.n:FuncId:=99
noncomputable def eO.body:Code:=(Tryz.f99.body).getD .skip
def bP.n:FuncId:=148
noncomputable def bP.body:Code:=(Tryz.f148.body).getD .skip
def dW.n:FuncId:=160
noncomputable def dW.body:Code:=(Tryz.f160.body).getD .skip
def eP.n:FuncId:=101
noncomputable def eP.body:Code:=(Tryz.f101.body).getD .skip
def bV.n:FuncId:=93
noncomputable def bV.body:Code:=(Tryz.f93.body).getD .skip
def bQ.n:FuncId:=192
noncomputable def bQ.body:Code:=(Tryz.f192.body).getD .skip
def b6.n:FuncId:=154
noncomputable def b6.body:Code:=(Tryz.f154.body).getD .skip
def bM.n:FuncId:=95
noncomputable def bM.body:Code:=(Tryz.f95.body).getD .skip
def dE.n:FuncId:=150
noncomputable def dE.body:Code:=(Tryz.f150.body).getD .skip
def dF.n:FuncId:=168
noncomputable def dF.body:Code:=(Tryz.f168.body).getD .skip
def dT.n:FuncId:=108
noncomputable def dT.body:Code:=(Tryz.f108.body).getD .skip
def cM.n:FuncId:=109
noncomputable def cM.body:Code:=(Tryz.f109.body).getD .skip
def ee.n:FuncId:=47
noncomputable def ee.body:Code:=(Tryz.f47.body).getD .skip
def cr.n:FuncId:=94
noncomputable def cr.body:Code:=(Tryz.f94.body).getD .skip
def cS.n:FuncId:=149
noncomputable def cS.body:Code:=(Tryz.f149.body).getD .skip
def eM.n:FuncId:=151
noncomputable def eM.body:Code:=(Tryz.f151.body).getD .skip
def dS.n:FuncId:=87
noncomputable def dS.body:Code:=(Tryz.f87.body).getD .skip
def b7.n:FuncId:=152
noncomputable def b7.body:Code:=(Tryz.f152.body).getD .skip
def dp.n:FuncId:=88
noncomputable def dp.body:Code:=(Tryz.f88.body).getD .skip
def dr.n:FuncId:=89
noncomputable def dr.body:Code:=(Tryz.f89.body).getD .skip
def eN.n:FuncId:=90
noncomputable def eN.body:Code:=(Tryz.f90.body).getD .skip
def eW.n:FuncId:=48
noncomputable def eW.body:Code:=(Tryz.f48.body).getD .skip
def eU.n:FuncId:=18
noncomputable def eU.body:Code:=(Tryz.f18.body).getD .skip
def xo.n:FuncId:=3
noncomputable def xo.body:Code:=(Tryz.f3.body).getD .skip
def strings_Join.n:FuncId:=74
end Go.Esc.M
