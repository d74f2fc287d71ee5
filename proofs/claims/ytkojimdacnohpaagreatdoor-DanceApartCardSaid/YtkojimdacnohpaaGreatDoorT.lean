import Derived.Test.YtkojimdacnohpaaGreatDoorProg
import Derived.Test.YtkojimdacnohpaaGreatDoorER
set_option linter.unusedSimpArgs false
set_option linter.unusedVariables false
namespace Go.Esc.M
open Go Go.Esc Go.Proofs
def aq:TypeId:=2
def ay:TypeId:=3
def du:TypeId:=4
def cm:TypeId:=5
def bH:TypeId:=9
def ar:TypeId:=23
def cc:TypeId:=24
def db:TypeId:=26
def jd:TypeId:=27
def aj:TypeId:=33
def aU:TypeId:=35
def aV:TypeId:=36
def aE:TypeId:=38
def bU:TypeId:=41
def cJ:TypeId:=42
def gQ:TypeId:=43
def bR:TypeId:=44
def bz:TypeId:=46
def aW:TypeId:=48
def ja:TypeId:=57
def bD:TypeId:=66
def aG:TypeId:=76
def ax:TypeId:=78
def aR:TypeId:=85
def cz:TypeId:=100
def kB:TypeId:=108
def aw:TypeId:=124
def aX:TypeId:=126
def aT:TypeId:=130
def iE:TypeId:=131
def j1:TypeId:=133
def aJ:TypeId:=134
def bn:TypeId:=135
def bW:TypeId:=136
def mJ:TypeId:=157
def bO:TypeId:=178
def dU:TypeId:=181
def jf:TypeId:=196
def zH:TypeId:=217
def om:TypeId:=219
def aZ:TypeId:=231
def lY:TypeId:=238
def lR:TypeId:=239
def fK:TypeId:=241
def lF:TypeId:=255
def J4:ah:=.int .i64 0
def iZ:TI:=⟨.int .i64,1,8,J4⟩
def Mb:ah:=.int .i64 0
def nc:TI:=⟨.int .i64,1,8,Mb⟩
def Li:ah:=.bool false
def rT:TI:=⟨.bool,1,1,Li⟩
def J3:ah:=.int .u8 0
def gi:TI:=⟨.int .u8,1,1,J3⟩
def Iu:ah:=.str []
def iO:TI:=⟨.string,1,16,Iu⟩
def dm:ah:=.agg (List.replicate 32 (.int .u8 0))
def dQ:TI:=⟨.array 32 cm,32,32,dm⟩
def zk:ah:=.agg (List.replicate 2 (.agg (List.replicate 32 (.int .u8 0))))
def mr:TI:=⟨.array 2 ar,64,64,zk⟩
def pV:ah:=.agg [.int .i64 0,.int .i64 0,.agg (List.replicate 2 (.agg (List.replicate 32 (.int .u8 0)))),.agg (List.replicate 2 (.agg (List.replicate 32 (.int .u8 0))))]
def lC:TI:=⟨.struct [(aq,0),(aq,1),(cc,2),(cc,66)],130,144,pV⟩
def uw:ah:=.nilSlice
def kR:TI:=⟨.slice ja,1,24,uw⟩
def yJ:ah:=.nilSlice
def dL:TI:=⟨.slice aG,1,24,yJ⟩
def iP:ah:=.agg [.int .i64 0,.int .i64 0]
def pb:TI:=⟨.struct [(ay,0),(ay,1)],2,16,iP⟩
def Bd:ah:=.nilSlice
def jr:TI:=⟨.slice cz,1,24,Bd⟩
def hO:ah:=.agg [.int .i64 0,.int .i64 0,.int .i64 0,.int .i64 0,.nilSlice,.nilSlice,.int .i64 0,.int .i64 0,.int .i64 0,.agg [.int .i64 0,.int .i64 0],.agg [.int .i64 0,.int .i64 0],.agg [.int .i64 0,.int .i64 0],.bool false,.agg (List.replicate 2 (.agg (List.replicate 32 (.int .u8 0)))),.agg (List.replicate 32 (.int .u8 0)),.nilSlice,.int .i64 0,.int .i64 0]
def oG:TI:=⟨.struct [(ay,0),(aq,1),(aq,2),(aq,3),(aj,4),(aj,5),(aq,6),(aq,7),(aq,8),(aU,9),(aU,11),(aU,13),(du,15),(cc,16),(ar,80),(aV,112),(ay,113),(aq,114)],115,296,hO⟩
def rK:ah:=.agg [.int .i64 0,.int .i64 0,.int .i64 0,.agg (List.replicate 32 (.int .u8 0)),.agg (List.replicate 32 (.int .u8 0)),.agg (List.replicate 32 (.int .u8 0)),.agg (List.replicate 2 (.agg (List.replicate 32 (.int .u8 0)))),.int .i64 0]
def nt:TI:=⟨.struct [(ay,0),(aq,1),(aq,2),(ar,3),(ar,35),(ar,67),(cc,99),(ay,163)],164,192,rK⟩
def mP:ah:=.agg (List.replicate 2 (.agg [.int .i64 0,.int .i64 0,.int .i64 0,.agg (List.replicate 32 (.int .u8 0)),.agg (List.replicate 32 (.int .u8 0)),.agg (List.replicate 32 (.int .u8 0)),.agg (List.replicate 2 (.agg (List.replicate 32 (.int .u8 0)))),.int .i64 0]))
def jO:TI:=⟨.array 2 bU,328,384,mP⟩
def yL:ah:=.agg (List.replicate 2 (.agg [.int .i64 0,.int .i64 0,.int .i64 0,.int .i64 0,.nilSlice,.nilSlice,.int .i64 0,.int .i64 0,.int .i64 0,.agg [.int .i64 0,.int .i64 0],.agg [.int .i64 0,.int .i64 0],.agg [.int .i64 0,.int .i64 0],.bool false,.agg (List.replicate 2 (.agg (List.replicate 32 (.int .u8 0)))),.agg (List.replicate 32 (.int .u8 0)),.nilSlice,.int .i64 0,.int .i64 0]))
def o5:TI:=⟨.array 2 aE,230,592,yL⟩
def wN:ah:=.nilSlice
def iJ:TI:=⟨.slice aW,1,24,wN⟩
def ux:ah:=.agg [.agg (List.replicate 2 (.agg [.int .i64 0,.int .i64 0,.int .i64 0,.agg (List.replicate 32 (.int .u8 0)),.agg (List.replicate 32 (.int .u8 0)),.agg (List.replicate 32 (.int .u8 0)),.agg (List.replicate 2 (.agg (List.replicate 32 (.int .u8 0)))),.int .i64 0])),.agg (List.replicate 2 (.agg [.int .i64 0,.int .i64 0,.int .i64 0,.int .i64 0,.nilSlice,.nilSlice,.int .i64 0,.int .i64 0,.int .i64 0,.agg [.int .i64 0,.int .i64 0],.agg [.int .i64 0,.int .i64 0],.agg [.int .i64 0,.int .i64 0],.bool false,.agg (List.replicate 2 (.agg (List.replicate 32 (.int .u8 0)))),.agg (List.replicate 32 (.int .u8 0)),.nilSlice,.int .i64 0,.int .i64 0])),.nilSlice,.nilSlice]
def nE:TI:=⟨.struct [(cJ,0),(gQ,328),(bR,558),(bR,559)],560,1024,ux⟩
def jF:ah:=.agg [.int .i64 0,.int .i64 0,.int .i64 0,.int .i64 0,.int .i64 0,.agg (List.replicate 32 (.int .u8 0)),.agg (List.replicate 32 (.int .u8 0)),.str []]
def il:TI:=⟨.struct [(ay,0),(aq,1),(aq,2),(aq,3),(aq,4),(ar,5),(ar,37),(bH,69)],70,120,jF⟩
def q7:ah:=.agg [.int .i64 0,.bool false,.int .i64 0,.int .i64 0,.agg (List.replicate 32 (.int .u8 0)),.str [],.int .i64 0]
def kh:TI:=⟨.struct [(ay,0),(du,1),(aq,2),(aq,3),(ar,4),(bH,36),(aq,37)],38,88,q7⟩
def Dp:ah:=.int .i64 0
def rU:TI:=⟨.int .i64,1,8,Dp⟩
def dv:ah:=.agg [.int .i64 0,.int .i64 0,.int .i64 0,.agg (List.replicate 32 (.int .u8 0)),.str []]
def cG:TI:=⟨.struct [(ay,0),(aq,1),(aq,2),(ar,3),(bH,35)],36,72,dv⟩
def dw:ah:=.agg [.int .i64 0,.agg [.int .i64 0,.int .i64 0,.int .i64 0,.agg (List.replicate 32 (.int .u8 0)),.str []],.nilSlice,.int .i64 0,.agg [.int .i64 0,.int .i64 0],.agg (List.replicate 32 (.int .u8 0)),.agg (List.replicate 32 (.int .u8 0)),.agg (List.replicate 32 (.int .u8 0)),.int .i64 0]
def nY:TI:=⟨.struct [(ay,0),(aG,1),(aj,37),(aq,38),(aU,39),(ar,41),(ar,73),(ar,105),(ay,137)],138,232,dw⟩
def ET:ah:=.nilSlice
def fJ:TI:=⟨.slice cm,1,24,ET⟩
def pW:ah:=.agg [.int .i64 0,.agg (List.replicate 32 (.int .u8 0)),.bool false]
def kv:TI:=⟨.struct [(aq,0),(ar,1),(du,33)],34,48,pW⟩
def oY:ah:=.agg (List.replicate 48 (.int .i64 0))
def pn:TI:=⟨.array 48 ay,48,384,oY⟩
def wM:ah:=.nilSlice
def b8:TI:=⟨.slice aT,1,24,wM⟩
def jJ:ah:=.agg [.int .i64 0,.int .i64 0,.nilSlice]
def lN:TI:=⟨.struct [(aq,0),(aq,1),(aw,2)],3,40,jJ⟩
def jQ:ah:=.agg [.bool false,.int .i64 0,.int .i64 0,.agg (List.replicate 32 (.int .u8 0))]
def dS:TI:=⟨.struct [(du,0),(aq,1),(aq,2),(ar,3)],35,56,jQ⟩
def Dn:ah:=.nilSlice
def kf:TI:=⟨.slice bH,1,24,Dn⟩
def Ir:ah:=.int .u64 0
def w9:TI:=⟨.int .u64,1,8,Ir⟩
def Is:ah:=.int .u32 0
def xc:TI:=⟨.int .u32,1,4,Is⟩
def mw:ah:=.agg (List.replicate 8 (.int .u32 0))
def qL:TI:=⟨.array 8 aJ,8,32,mw⟩
def iy:ah:=.agg (List.replicate 64 (.int .u32 0))
def p5:TI:=⟨.array 64 aJ,64,256,iy⟩
def Lh:ah:=.int .u64 0
def CI:TI:=⟨.int .u64,1,8,Lh⟩
def kb:ah:=.agg [.int .i64 0,.int .i64 0]
def pZ:TI:=⟨.struct [(aq,0),(aq,1)],2,16,kb⟩
def k6:ah:=.nilMap
def lQ:TI:=⟨.map aq ay,1,8,k6⟩
def EU:ah:=.nilSlice
def lM:TI:=⟨.slice aq,1,24,EU⟩
def It:ah:=.int .u16 0
def xd:TI:=⟨.int .u16,1,2,It⟩
def Hp:ah:=.nilSlice
def oZ:TI:=⟨.slice du,1,24,Hp⟩
def jn:ah:=.agg [.int .i64 0,.int .i64 0]
def nT:TI:=⟨.struct [(aq,0),(aq,1)],2,16,jn⟩
def zj:ah:=.nilMap
def mq:TI:=⟨.map du ay,1,8,zj⟩
def wO:ah:=.nilMap
def kg:TI:=⟨.map du aq,1,8,wO⟩
def yK:ah:=.agg [.nilSlice,.int .i64 0]
def o4:TI:=⟨.struct [(aR,0),(bD,1)],2,32,yK⟩
def rJ:ah:=.agg (List.replicate 64 (.int .u8 0))
def nX:TI:=⟨.array 64 cm,64,64,rJ⟩
noncomputable abbrev P:Program:=Tryz.prog
theorem E9:gl P 2 iZ:=gl.mk' (by kernel_rfl) (by kernel_rfl) (by kernel_rfl) (by kernel_rfl)
theorem IC:gl P 3 nc:=gl.mk' (by kernel_rfl) (by kernel_rfl) (by kernel_rfl) (by kernel_rfl)
theorem Hv:gl P 4 rT:=gl.mk' (by kernel_rfl) (by kernel_rfl) (by kernel_rfl) (by kernel_rfl)
theorem E8:gl P 5 gi:=gl.mk' (by kernel_rfl) (by kernel_rfl) (by kernel_rfl) (by kernel_rfl)
theorem DJ:gl P 9 iO:=gl.mk' (by kernel_rfl) (by kernel_rfl) (by kernel_rfl) (by kernel_rfl)
theorem Bj:gl P 23 dQ:=gl.mk' (by kernel_rfl) (by kernel_rfl) (by kernel_rfl) (by kernel_rfl)
theorem vI:gl P 24 mr:=gl.mk' (by kernel_rfl) (by kernel_rfl) (by kernel_rfl) (by kernel_rfl)
theorem sR:gl P 26 lC:=gl.mk' (by kernel_rfl) (by kernel_rfl) (by kernel_rfl) (by kernel_rfl)
theorem rR:gl P 27 kR:=gl.mk' (by kernel_rfl) (by kernel_rfl) (by kernel_rfl) (by kernel_rfl)
theorem uW:gl P 33 dL:=gl.mk' (by kernel_rfl) (by kernel_rfl) (by kernel_rfl) (by kernel_rfl)
theorem yR:gl P 35 pb:=gl.mk' (by kernel_rfl) (by kernel_rfl) (by kernel_rfl) (by kernel_rfl)
theorem wW:gl P 36 jr:=gl.mk' (by kernel_rfl) (by kernel_rfl) (by kernel_rfl) (by kernel_rfl)
theorem zA:gl P 38 oG:=gl.mk' (by kernel_rfl) (by kernel_rfl) (by kernel_rfl) (by kernel_rfl)
theorem yS:gl P 41 nt:=gl.mk' (by kernel_rfl) (by kernel_rfl) (by kernel_rfl) (by kernel_rfl)
theorem uC:gl P 42 jO:=gl.mk' (by kernel_rfl) (by kernel_rfl) (by kernel_rfl) (by kernel_rfl)
theorem uZ:gl P 43 o5:=gl.mk' (by kernel_rfl) (by kernel_rfl) (by kernel_rfl) (by kernel_rfl)
theorem uz:gl P 44 iJ:=gl.mk' (by kernel_rfl) (by kernel_rfl) (by kernel_rfl) (by kernel_rfl)
theorem rS:gl P 46 nE:=gl.mk' (by kernel_rfl) (by kernel_rfl) (by kernel_rfl) (by kernel_rfl)
theorem w6:gl P 48 il:=gl.mk' (by kernel_rfl) (by kernel_rfl) (by kernel_rfl) (by kernel_rfl)
theorem uB:gl P 57 kh:=gl.mk' (by kernel_rfl) (by kernel_rfl) (by kernel_rfl) (by kernel_rfl)
theorem zB:gl P 66 rU:=gl.mk' (by kernel_rfl) (by kernel_rfl) (by kernel_rfl) (by kernel_rfl)
theorem yO:gl P 76 cG:=gl.mk' (by kernel_rfl) (by kernel_rfl) (by kernel_rfl) (by kernel_rfl)
theorem yP:gl P 78 nY:=gl.mk' (by kernel_rfl) (by kernel_rfl) (by kernel_rfl) (by kernel_rfl)
theorem Bf:gl P 85 fJ:=gl.mk' (by kernel_rfl) (by kernel_rfl) (by kernel_rfl) (by kernel_rfl)
theorem Bi:gl P 100 kv:=gl.mk' (by kernel_rfl) (by kernel_rfl) (by kernel_rfl) (by kernel_rfl)
theorem Bh:gl P 108 pn:=gl.mk' (by kernel_rfl) (by kernel_rfl) (by kernel_rfl) (by kernel_rfl)
theorem uy:gl P 124 b8:=gl.mk' (by kernel_rfl) (by kernel_rfl) (by kernel_rfl) (by kernel_rfl)
theorem yQ:gl P 126 lN:=gl.mk' (by kernel_rfl) (by kernel_rfl) (by kernel_rfl) (by kernel_rfl)
theorem wZ:gl P 130 dS:=gl.mk' (by kernel_rfl) (by kernel_rfl) (by kernel_rfl) (by kernel_rfl)
theorem zz:gl P 131 kf:=gl.mk' (by kernel_rfl) (by kernel_rfl) (by kernel_rfl) (by kernel_rfl)
theorem DG:gl P 133 w9:=gl.mk' (by kernel_rfl) (by kernel_rfl) (by kernel_rfl) (by kernel_rfl)
theorem DH:gl P 134 xc:=gl.mk' (by kernel_rfl) (by kernel_rfl) (by kernel_rfl) (by kernel_rfl)
theorem yM:gl P 135 qL:=gl.mk' (by kernel_rfl) (by kernel_rfl) (by kernel_rfl) (by kernel_rfl)
theorem wY:gl P 136 p5:=gl.mk' (by kernel_rfl) (by kernel_rfl) (by kernel_rfl) (by kernel_rfl)
theorem Hu:gl P 157 CI:=gl.mk' (by kernel_rfl) (by kernel_rfl) (by kernel_rfl) (by kernel_rfl)
theorem wX:gl P 178 pZ:=gl.mk' (by kernel_rfl) (by kernel_rfl) (by kernel_rfl) (by kernel_rfl)
theorem uX:gl P 181 lQ:=gl.mk' (by kernel_rfl) (by kernel_rfl) (by kernel_rfl) (by kernel_rfl)
theorem Bg:gl P 196 lM:=gl.mk' (by kernel_rfl) (by kernel_rfl) (by kernel_rfl) (by kernel_rfl)
theorem DI:gl P 217 xd:=gl.mk' (by kernel_rfl) (by kernel_rfl) (by kernel_rfl) (by kernel_rfl)
theorem CH:gl P 219 oZ:=gl.mk' (by kernel_rfl) (by kernel_rfl) (by kernel_rfl) (by kernel_rfl)
theorem sQ:gl P 231 nT:=gl.mk' (by kernel_rfl) (by kernel_rfl) (by kernel_rfl) (by kernel_rfl)
theorem vH:gl P 238 mq:=gl.mk' (by kernel_rfl) (by kernel_rfl) (by kernel_rfl) (by kernel_rfl)
theorem uA:gl P 239 kg:=gl.mk' (by kernel_rfl) (by kernel_rfl) (by kernel_rfl) (by kernel_rfl)
theorem uY:gl P 241 o4:=gl.mk' (by kernel_rfl) (by kernel_rfl) (by kernel_rfl) (by kernel_rfl)
theorem yN:gl P 255 nX:=gl.mk' (by kernel_rfl) (by kernel_rfl) (by kernel_rfl) (by kernel_rfl)
def T:Tbl:=(Tbl.cons 2 iZ (Tbl.cons 3 nc (Tbl.cons 4 rT (Tbl.cons 5 gi (Tbl.cons 9 iO (Tbl.cons 23 dQ (Tbl.cons 24 mr (Tbl.cons 26 lC (Tbl.cons 27 kR (Tbl.cons 33 dL (Tbl.cons 35 pb (Tbl.cons 36 jr (Tbl.cons 38 oG (Tbl.cons 41 nt (Tbl.cons 42 jO (Tbl.cons 43 o5 (Tbl.cons 44 iJ (Tbl.cons 46 nE (Tbl.cons 48 il (Tbl.cons 57 kh (Tbl.cons 66 rU (Tbl.cons 76 cG (Tbl.cons 78 nY (Tbl.cons 85 fJ (Tbl.cons 100 kv (Tbl.cons 108 pn (Tbl.cons 124 b8 (Tbl.cons 126 lN (Tbl.cons 130 dS (Tbl.cons 131 kf (Tbl.cons 133 w9 (Tbl.cons 134 xc (Tbl.cons 135 qL (Tbl.cons 136 p5 (Tbl.cons 157 CI (Tbl.cons 178 pZ (Tbl.cons 181 lQ (Tbl.cons 196 lM (Tbl.cons 217 xd (Tbl.cons 219 oZ (Tbl.cons 231 nT (Tbl.cons 238 mq (Tbl.cons 239 kg (Tbl.cons 241 o4 (Tbl.cons 255 nX Tbl.nil)))))))))))))))))))))))))))))))))))))))))))))
theorem K2:gF P T:=(gF.cons E9 (gF.cons IC (gF.cons Hv (gF.cons E8 (gF.cons DJ (gF.cons Bj (gF.cons vI (gF.cons sR (gF.cons rR (gF.cons uW (gF.cons yR (gF.cons wW (gF.cons zA (gF.cons yS (gF.cons uC (gF.cons uZ (gF.cons uz (gF.cons rS (gF.cons w6 (gF.cons uB (gF.cons zB (gF.cons yO (gF.cons yP (gF.cons Bf (gF.cons Bi (gF.cons Bh (gF.cons uy (gF.cons yQ (gF.cons wZ (gF.cons zz (gF.cons DG (gF.cons DH (gF.cons yM (gF.cons wY (gF.cons Hu (gF.cons wX (gF.cons uX (gF.cons Bg (gF.cons DI (gF.cons CH (gF.cons sQ (gF.cons vH (gF.cons uA (gF.cons uY (gF.cons yN gF.nil)))))))))))))))))))))))))))))))))))))))))))))
theorem cu:T aq=some iZ:=rfl
theorem iD:T ay=some nc:=rfl
theorem lL:T du=some rT:=rfl
theorem cW:T cm=some gi:=rfl
theorem fS:T bH=some iO:=rfl
theorem bZ:T ar=some dQ:=rfl
theorem mf:T cc=some mr:=rfl
theorem nf:T db=some lC:=rfl
theorem nV:T jd=some kR:=rfl
theorem bT:T aj=some dL:=rfl
theorem cK:T aU=some pb:=rfl
theorem gz:T aV=some jr:=rfl
theorem na:T aE=some oG:=rfl
theorem kp:T bU=some nt:=rfl
theorem mW:T cJ=some jO:=rfl
theorem Iq:T gQ=some o5:=rfl
theorem gP:T bR=some iJ:=rfl
theorem uG:T bz=some nE:=rfl
theorem eQ:T aW=some il:=rfl
theorem kI:T ja=some kh:=rfl
theorem tK:T bD=some rU:=rfl
theorem dE:T aG=some cG:=rfl
theorem pK:T ax=some nY:=rfl
theorem eC:T aR=some fJ:=rfl
theorem jN:T cz=some kv:=rfl
theorem ll:T kB=some pn:=rfl
theorem cy:T aw=some b8:=rfl
theorem ng:T aX=some lN:=rfl
theorem eP:T aT=some dS:=rfl
theorem m9:T iE=some kf:=rfl
theorem n5:T j1=some w9:=rfl
theorem kU:T aJ=some xc:=rfl
theorem sJ:T bn=some qL:=rfl
theorem jG:T bW=some p5:=rfl
theorem Dk:T mJ=some CI:=rfl
theorem dT:T bO=some pZ:=rfl
theorem lk:T dU=some lQ:=rfl
theorem oh:T jf=some lM:=rfl
theorem ER:T zH=some xd:=rfl
theorem xW:T om=some oZ:=rfl
theorem ck:T aZ=some nT:=rfl
theorem qv:T lY=some mq:=rfl
theorem nR:T lR=some kg:=rfl
theorem Ip:T fK=some o4:=rfl
theorem sK:T lF=some nX:=rfl
noncomputable def cx:Cx:=⟨P,T,fun _ _=>none⟩
theorem cF:ES cx:=⟨K2,fun _ _ _ h=>by cases h⟩
abbrev jK:AId:=⟨0,0,0⟩
abbrev Bc:AId:=⟨1,0,0⟩
theorem mixed:P.follows .mixedOrders=true:=by kernel_rfl
theorem aH {c:Code}{an:Ann}(h:sN cx c an=true) (_:(0:Nat)=0):oO cx c an:=xM cF mixed c an h
def dt.n:FuncId:=54
noncomputable def dt.body:Code:=(Tryz.f54.body).getD .skip
def eO.n:FuncId:=83
noncomputable def eO.body:Code:=(Tryz.f83.body).getD .skip
def eN.n:FuncId:=146
noncomputable def eN.body:Code:=(Tryz.f146.body).getD .skip
def bS.n:FuncId:=147
noncomputable def bS.body:Code:=(Tryz.f147.body).getD .skip
def fw.n:FuncId:=84
noncomputable def fw.body:Code:=(Tryz.f84.body).getD .skip
def dJ.n:FuncId:=35
noncomputable def dJ.body:Code:=(Tryz.f35.body).getD .skip
def fO.n:FuncId:=169
noncomputable def fO.body:Code:=(Tryz.f169.body).getD .skip
def cA.n:FuncId:=111
noncomputable def cA.body:Code:=(Tryz.f111.body).getD .skip
def fe.n:FuncId:=55
noncomputable def fe.body:Code:=(Tryz.f55.body).getD .skip
def cZ.n:FuncId:=56
noncomputable def cZ.body:Code:=(Tryz.f56.body).getD .skip
def cI.n:FuncId:=21
noncomputable def cI.body:Code:=(Tryz.f21.body).getD .skip
def dB.n:FuncId:=85
noncomputable def dB.body:Code:=(Tryz.f85.body).getD .skip
def cQ.n:FuncId:=36
noncomputable def cQ.body:Code:=(Tryz.f36.body).getD .skip
def dK.n:FuncId:=38
noncomputable def dK.body:Code:=(Tryz.f38.body).getD .skip
def fC.n:FuncId:=11
noncomputable def fC.body:Code:=(Tryz.f11.body).getD .skip
def fQ.n:FuncId:=80
noncomputable def fQ.body:Code:=(Tryz.f80.body).getD .skip
def gj.n:FuncId:=181
noncomputable def gj.body:Code:=(Tryz.f181.body).getD .skip
def dq.n:FuncId:=134
noncomputable def dq.body:Code:=(Tryz.f134.body).getD .skip
def cS.n:FuncId:=135
noncomputable def cS.body:Code:=(Tryz.f135.body).getD .skip
def dy.n:FuncId:=136
noncomputable def dy.body:Code:=(Tryz.f136.body).getD .skip
def gI.n:FuncId:=142
noncomputable def gI.body:Code:=(Tryz.f142.body).getD .skip
def iq.n:FuncId:=143
noncomputable def iq.body:Code:=(Tryz.f143.body).getD .skip
def fX.n:FuncId:=178
noncomputable def fX.body:Code:=(Tryz.f178.body).getD .skip
def ed.n:FuncId:=179
noncomputable def ed.body:Code:=(Tryz.f179.body).getD .skip
def fW.n:FuncId:=180
noncomputable def fW.body:Code:=(Tryz.f180.body).getD .skip
def eR.n:FuncId:=118
noncomputable def eR.body:Code:=(Tryz.f118.body).getD .skip
def eG.n:FuncId:=63
noncomputable def eG.body:Code:=(Tryz.f63.body).getD .skip
def gC.n:FuncId:=77
noncomputable def gC.body:Code:=(Tryz.f77.body).getD .skip
def jy.n:FuncId:=78
noncomputable def jy.body:Code:=(Tryz.f78.body).getD .skip
def jc.n:FuncId:=144
noncomputable def jc.body:Code:=(Tryz.f144.body).getD .skip
def iL.n:FuncId:=79
noncomputable def iL.body:Code:=(Tryz.f79.body).getD .skip
def jx.n:FuncId:=81
noncomputable def jx.body:Code:=(Tryz.f81.body).getD .skip
def gM.n:FuncId:=31
noncomputable def gM.body:Code:=(Tryz.f31.body).getD .skip
def gk.n:FuncId:=86
noncomputable def gk.body:Code:=(Tryz.f86.body).getD .skip
def iv.n:FuncId:=37
noncomputable def iv.body:Code:=(Tryz.f37.body).getD .skip
def iS.n:FuncId:=119
noncomputable def iS.body:Code:=(Tryz.f119.body).getD .skip
def cR.n:FuncId:=64
noncomputable def cR.body:Code:=(Tryz.f64.body).getD .skip
def jz.n:FuncId:=65
noncomputable def jz.body:Code:=(Tryz.f65.body).getD .skip
def jE.n:FuncId:=185
noncomputable def jE.body:Code:=(Tryz.f185.body).getD .skip
def jX.n:FuncId:=130
noncomputable def jX.body:Code:=(Tryz.f130.body).getD .skip
def bx.n:FuncId:=186
noncomputable def bx.body:Code:=(Tryz.f186.body).getD .skip
def bd.n:FuncId:=131
noncomputable def bd.body:Code:=(Tryz.f131.body).getD .skip
def gu.n:FuncId:=132
noncomputable def gu.body:Code:=(Tryz.f132.body).getD .skip
def bh.n:FuncId:=222
noncomputable def bh.body:Code:=(Tryz.f222.body).getD .skip
def bA.n:FuncId:=225
noncomputable def bA.body:Code:=(Tryz.f225.body).getD .skip
def bK.n:FuncId:=224
noncomputable def bK.body:Code:=(Tryz.f224.body).getD .skip
def aY.n:FuncId:=223
noncomputable def aY.body:Code:=(Tryz.f223.body).getD .skip
def bJ.n:FuncId:=212
noncomputable def bJ.body:Code:=(Tryz.f212.body).getD .skip
def bc.n:FuncId:=187
noncomputable def bc.body:Code:=(Tryz.f187.body).getD .skip
def fR.n:FuncId:=213
noncomputable def fR.body:Code:=(Tryz.f213.body).getD .skip
def fH.n:FuncId:=189
noncomputable def fH.body:Code:=(Tryz.f189.body).getD .skip
def hI.n:FuncId:=188
noncomputable def hI.body:Code:=(Tryz.f188.body).getD .skip
def iK.n:FuncId:=133
noncomputable def iK.body:Code:=(Tryz.f133.body).getD .skip
def iM.n:FuncId:=73
noncomputable def iM.body:Code:=(Tryz.f73.body).getD .skip
def iQ.n:FuncId:=162
noncomputable def iQ.body:Code:=(Tryz.f162.body).getD .skip
def gS.n:FuncId:=163
noncomputable def gS.body:Code:=(Tryz.f163.body).getD .skip
def gV.n:FuncId:=75
noncomputable def gV.body:Code:=(Tryz.f75.body).getD .skip
def bL.n:FuncId:=141
noncomputable def bL.body:Code:=(Tryz.f141.body).getD .skip
def iC.n:FuncId:=140
noncomputable def iC.body:Code:=(Tryz.f140.body).getD .skip
def jv.n:FuncId:=76
noncomputable def jv.body:Code:=(Tryz.f76.body).getD .skip
def jh.n:FuncId:=30
noncomputable def jh.body:Code:=(Tryz.f30.body).getD .skip
def iz.n:FuncId:=114
noncomputable def iz.body:Code:=(Tryz.f114.body).getD .skip
def j2.n:FuncId:=164
noncomputable def j2.body:Code:=(Tryz.f164.body).getD .skip
def im.n:FuncId:=113
noncomputable def im.body:Code:=(Tryz.f113.body).getD .skip
def iW.n:FuncId:=170
noncomputable def iW.body:Code:=(Tryz.f170.body).getD .skip
def jV.n:FuncId:=171
noncomputable def jV.body:Code:=(Tryz.f171.body).getD .skip
def gh.n:FuncId:=207
noncomputable def gh.body:Code:=(Tryz.f207.body).getD .skip
def eo.n:FuncId:=172
noncomputable def eo.body:Code:=(Tryz.f172.body).getD .skip
def fD.n:FuncId:=208
noncomputable def fD.body:Code:=(Tryz.f208.body).getD .skip
def cB.n:FuncId:=173
noncomputable def cB.body:Code:=(Tryz.f173.body).getD .skip
def fF.n:FuncId:=209
noncomputable def fF.body:Code:=(Tryz.f209.body).getD .skip
def dG.n:FuncId:=174
noncomputable def dG.body:Code:=(Tryz.f174.body).getD .skip
def fE.n:FuncId:=210
noncomputable def fE.body:Code:=(Tryz.f210.body).getD .skip
def fV.n:FuncId:=175
noncomputable def fV.body:Code:=(Tryz.f175.body).getD .skip
def fG.n:FuncId:=176
noncomputable def fG.body:Code:=(Tryz.f176.body).getD .skip
def iN.n:FuncId:=115
noncomputable def iN.body:Code:=(Tryz.f115.body).getD .skip
def kG.n:FuncId:=120
noncomputable def kG.body:Code:=(Tryz.f120.body).getD .skip
def j5.n:FuncId:=211
noncomputable def j5.body:Code:=(Tryz.f211.body).getD .skip
def l9.n:FuncId:=177
noncomputable def l9.body:Code:=(Tryz.f177.body).getD .skip
def j3.n:FuncId:=117
noncomputable def j3.body:Code:=(Tryz.f117.body).getD .skip
def jT.n:FuncId:=121
noncomputable def jT.body:Code:=(Tryz.f121.body).getD .skip
def gK.n:FuncId:=122
noncomputable def gK.body:Code:=(Tryz.f122.body).getD .skip
def bk.n:FuncId:=123
noncomputable def bk.body:Code:=(Tryz.f123.body).getD .skip
def jB.n:FuncId:=66
noncomputable def jB.body:Code:=(Tryz.f66.body).getD .skip
def dH.n:FuncId:=202
noncomputable def dH.body:Code:=(Tryz.f202.body).getD .skip
def jt.n:FuncId:=161
noncomputable def jt.body:Code:=(Tryz.f161.body).getD .skip
def ju.n:FuncId:=102
noncomputable def ju.body:Code:=(Tryz.f102.body).getD .skip
def kC.n:FuncId:=124
noncomputable def kC.body:Code:=(Tryz.f124.body).getD .skip
def gL.n:FuncId:=67
noncomputable def gL.body:Code:=(Tryz.f67.body).getD .skip
def fy.n:FuncId:=23
noncomputable def fy.body:Code:=(Tryz.f23.body).getD .skip
def bP.n:FuncId:=12
noncomputable def bP.body:Code:=(Tryz.f12.body).getD .skip
def df.n:FuncId:=24
noncomputable def df.body:Code:=(Tryz.f24.body).getD .skip
def ij.n:FuncId:=183
noncomputable def ij.body:Code:=(Tryz.f183.body).getD .skip
def ik.n:FuncId:=126
noncomputable def ik.body:Code:=(Tryz.f126.body).getD .skip
def j6.n:FuncId:=127
noncomputable def j6.body:Code:=(Tryz.f127.body).getD .skip
def gn.n:FuncId:=145
noncomputable def gn.body:Code:=(Tryz.f145.body).getD .skip
def gJ.n:FuncId:=82
noncomputable def gJ.body:Code:=(Tryz.f82.body).getD .skip
def iT.n:FuncId:=32
noncomputable def iT.body:Code:=(Tryz.f32.body).getD .skip
def iV.n:FuncId:=34
noncomputable def iV.body:Code:=(Tryz.f34.body).getD .skip
def bV.n:FuncId:=45
noncomputable def bV.body:Code:=(Tryz.f45.body).getD .skip
def cP.n:FuncId:=15
noncomputable def cP.body:Code:=(Tryz.f15.body).getD .skip
def bQ.n:FuncId:=110
noncomputable def bQ.body:Code:=(Tryz.f110.body).getD .skip
def fL.n:FuncId:=51
noncomputable def fL.body:Code:=(Tryz.f51.body).getD .skip
def iU.n:FuncId:=61
noncomputable def iU.body:Code:=(Tryz.f61.body).getD .skip
def jD.n:FuncId:=116
noncomputable def jD.body:Code:=(Tryz.f116.body).getD .skip
def jC.n:FuncId:=62
noncomputable def jC.body:Code:=(Tryz.f62.body).getD .skip
def cg.n:FuncId:=93
noncomputable def cg.body:Code:=(Tryz.f93.body).getD .skip
def cq.n:FuncId:=192
noncomputable def cq.body:Code:=(Tryz.f192.body).getD .skip
def cM.n:FuncId:=154
noncomputable def cM.body:Code:=(Tryz.f154.body).getD .skip
def cO.n:FuncId:=94
noncomputable def cO.body:Code:=(Tryz.f94.body).getD .skip
def b5.n:FuncId:=95
noncomputable def b5.body:Code:=(Tryz.f95.body).getD .skip
def dc.n:FuncId:=195
noncomputable def dc.body:Code:=(Tryz.f195.body).getD .skip
def dz.n:FuncId:=203
noncomputable def dz.body:Code:=(Tryz.f203.body).getD .skip
def eh.n:FuncId:=196
noncomputable def eh.body:Code:=(Tryz.f196.body).getD .skip
def dO.n:FuncId:=198
noncomputable def dO.body:Code:=(Tryz.f198.body).getD .skip
def dY.n:FuncId:=218
noncomputable def dY.body:Code:=(Tryz.f218.body).getD .skip
def ek.n:FuncId:=219
noncomputable def ek.body:Code:=(Tryz.f219.body).getD .skip
def eL.n:FuncId:=220
noncomputable def eL.body:Code:=(Tryz.f220.body).getD .skip
def eW.n:FuncId:=197
noncomputable def eW.body:Code:=(Tryz.f197.body).getD .skip
def fM.n:FuncId:=199
noncomputable def fM.body:Code:=(Tryz.f199.body).getD .skip
def eZ.n:FuncId:=158
noncomputable def eZ.body:Code:=(Tryz.f158.body).getD .skip
def eg.n:FuncId:=221
noncomputable def eg.body:Code:=(Tryz.f221.body).getD .skip
def fk.n:FuncId:=200
noncomputable def fk.body:Code:=(Tryz.f200.body).getD .skip
def cH.n:FuncId:=201
noncomputable def cH.body:Code:=(Tryz.f201.body).getD .skip
def eV.n:FuncId:=159
noncomputable def eV.body:Code:=(Tryz.f159.body).getD .skip
def gd.n:FuncId:=193
noncomputable def gd.body:Code:=(Tryz.f193.body).getD .skip
def eI.n:FuncId:=155
noncomputable def eI.body:Code:=(Tryz.f155.body).getD .skip
def fP.n:FuncId:=216
noncomputable def fP.body:Code:=(Tryz.f216.body).getD .skip
def fx.n:FuncId:=217
noncomputable def fx.body:Code:=(Tryz.f217.body).getD .skip
def gB.n:FuncId:=194
noncomputable def gB.body:Code:=(Tryz.f194.body).getD .skip
def fc.n:FuncId:=156
noncomputable def fc.body:Code:=(Tryz.f156.body).getD .skip
def ef.n:FuncId:=96
noncomputable def ef.body:Code:=(Tryz.f96.body).getD .skip
def bC.n:FuncId:=157
noncomputable def bC.body:Code:=(Tryz.f157.body).getD .skip
def kH.n:FuncId:=97
noncomputable def kH.body:Code:=(Tryz.f97.body).getD .skip
def dF.n:FuncId:=98
noncomputable def dF.body:Code:=(Tryz.f98.body).getD .skip
def dA.n:FuncId:=40
noncomputable def dA.body:Code:=(Tryz.f40.body).getD .skip
def gg.n:FuncId:=204
noncomputable def gg.body:Code:=(Tryz.f204.body).getD .skip
def gf.n:FuncId:=205
noncomputable def gf.body:Code:=(Tryz.f205.body).getD .skip
def dZ.n:FuncId:=206
noncomputable def dZ.body:Code:=(Tryz.f206.body).getD .skip
def fa.n:FuncId:=167
noncomputable def fa.body:Code:=(Tryz.f167.body).getD .skip
def ee.n:FuncId:=128
noncomputable def ee.body:Code:=(Tryz.f128.body).getD .skip
def fq.n:FuncId:=103
noncomputable def fq.body:Code:=(Tryz.f103.body).getD .skip
def gW.n:FuncId:=104
noncomputable def gW.body:Code:=(Tryz.f104.body).getD .skip
def en.n:FuncId:=165
noncomputable def en.body:Code:=(Tryz.f165.body).getD .skip
def eM.n:FuncId:=105
noncomputable def eM.body:Code:=(Tryz.f105.body).getD .skip
def fu.n:FuncId:=184
noncomputable def fu.body:Code:=(Tryz.f184.body).getD .skip
def fN.n:FuncId:=129
noncomputable def fN.body:Code:=(Tryz.f129.body).getD .skip
def dX.n:FuncId:=70
noncomputable def dX.body:Code:=(Tryz.f70.body).getD .skip
def cl.n:FuncId:=71
noncomputable def cl.body:Code:=(Tryz.f71.body).getD .skip
def ec.n:FuncId:=72
noncomputable def ec.body:Code:=(Tryz.f72.body).getD .skip
def b9.n:FuncId:=49
noncomputable def b9.body:Code:=(Tryz.f49.body).getD .skip
def cd.n:FuncId:=148
noncomputable def cd.body:Code:=(Tryz.f148.body).getD .skip
def dN.n:FuncId:=149
noncomputable def dN.body:Code:=(Tryz.f149.body).getD .skip
def eT.n:FuncId:=150
noncomputable def eT.body:Code:=(Tryz.f150.body).getD .skip
def fY.n:FuncId:=151
noncomputable def fY.body:Code:=(Tryz.f151.body).getD .skip
def fh.n:FuncId:=87
noncomputable def fh.body:Code:=(Tryz.f87.body).getD .skip
def eU.n:FuncId:=168
noncomputable def eU.body:Code:=(Tryz.f168.body).getD .skip
def cN.n:FuncId:=152
noncomputable def cN.body:Code:=(Tryz.f152.body).getD .skip
def eJ.n:FuncId:=88
noncomputable def eJ.body:Code:=(Tryz.f88.body).getD .skip
def eK.n:FuncId:=89
noncomputable def eK.body:Code:=(Tryz.f89.body).getD .skip
def fZ.n:FuncId:=90
noncomputable def fZ.body:Code:=(Tryz.f90.body).getD .skip
def jo.n:FuncId:=182
noncomputable def jo.body:Code:=(Tryz.f182.body).getD .skip
def jq.n:FuncId:=125
noncomputable def jq.body:Code:=(Tryz.f125.body).getD .skip
def jA.n:FuncId:=68
noncomputable def jA.body:Code:=(Tryz.f68.body).getD .skip
def dd.n:FuncId:=69
noncomputable def dd.body:Code:=(Tryz.f69.body).getD .skip
def dg.n:FuncId:=153
noncomputable def dg.body:Code:=(Tryz.f153.body).getD .skip
def dP.n:FuncId:=92
noncomputable def dP.body:Code:=(Tryz.f92.body).getD .skip
def ga.n:FuncId:=99
noncomputable def ga.body:Code:=(Tryz.f99.body).getD .skip
def fl.n:FuncId:=160
noncomputable def fl.body:Code:=(Tryz.f160.body).getD .skip
def gb.n:FuncId:=101
noncomputable def gb.body:Code:=(Tryz.f101.body).getD .skip
def fj.n:FuncId:=108
noncomputable def fj.body:Code:=(Tryz.f108.body).getD .skip
def dW.n:FuncId:=109
noncomputable def dW.body:Code:=(Tryz.f109.body).getD .skip
def cV.n:FuncId:=91
noncomputable def cV.body:Code:=(Tryz.f91.body).getD .skip
def de.n:FuncId:=39
noncomputable def de.body:Code:=(Tryz.f39.body).getD .skip
def aaq.n:FuncId:=100
noncomputable def aaq.body:Code:=(Tryz.f100.body).getD .skip
def ab7.n:FuncId:=41
noncomputable def ab7.body:Code:=(Tryz.f41.body).getD .skip
def aap.n:FuncId:=9
noncomputable def aap.body:Code:=(Tryz.f9.body).getD .skip
def strings_Join.n:FuncId:=74
end Go.Esc.M
namespace Go.Esc
theorem dT_ {p:Prop} [Decidable p] (h:p):decide p=true:=decide_eq_true h
theorem dF_ {p:Prop} [Decidable p] (h:¬p):decide p=false:=decide_eq_false h
end Go.Esc
