import Derived.Test.YtkojimdacnohpaaGreatDoorEH
import Derived.Lib.ConvBytes
import Derived.Laws.MakeOwn
set_option linter.unusedSimpArgs false
set_option linter.unusedVariables false
namespace Go.Esc
open Go Go.RowKit
def oT (P:Program) (f:FuncId) (args:Array Value) (w:World) (R:Value->World->Prop):Prop:=
 match (callFunc f args).run P w with
 | .ok (.value u) w'=>R u w'
 | .ok (.enter f' args') w'=>Calls P f' args' w' fun e w''=>∃ u,e=.returned u/\R u w''
 | _=>False
theorem oT.mono {P:Program}{f:FuncId}{args:Array Value}{w:World}{R R':Value->World->Prop}(h:oT P f args w R) (hr:∀ u w',R u w'->R' u w'):oT P f args w R':=by
 unfold oT at *;split at h
 ·exact hr _ _ h
 ·exact h.mono fun e w'' ⟨u,he,hu⟩=>⟨u,he,hr _ _ hu⟩
 ·exact h.elim
def al (P:Program) (f:FuncId) (args:List ah) (G:ak) (Q:ah->ak->Prop):Prop:=
 ∀ B w,Rel B G w->oT P f (cvs args).toArray w fun u w'=>∃ v G',u=cv v/\Rel B G' w'/\Q v G'
theorem al.mono {P:Program}{f:FuncId}{args:List ah}{G:ak}{Q Q':ah->ak->Prop}(h:al P f args G Q) (hq:∀ v G',Q v G'->Q' v G'):al P f args G Q':=
 fun B w hr=>(h B w hr).mono fun u w' ⟨v,G',e,r,q⟩=>⟨v,G',e,r,hq _ _ q⟩
def Live (G:ak):Prop:=∃ B w,Rel B G w
theorem al.BW {P:Program}{f:FuncId}{args:List ah}{G:ak}{Q Q':ah->ak->Prop}(h:al P f args G Q) (hq:∀ v G',Live G'->Q v G'->Q' v G'):al P f args G Q':=
 fun B w hr=>(h B w hr).mono fun u w' ⟨v,G',e,r,q⟩=>⟨v,G',e,r,hq _ _ ⟨B,w',r⟩ q⟩
theorem al.frame {P:Program}{f:FuncId}{args:List ah}{G G1:ak}{Q:ah->ak->Prop}(h:al P f args G1 Q) (hle:G1.le G) :
  al P f args G fun v G'=>∃ G1',Q v G1'/\G'=G.merge G1 G1':=by
 intro B w hr;exact (h _ w (hr.weaken hle).r8).mono fun u w' ⟨v,G1',e,r,q⟩=>⟨v,G.merge G1 G1',e,hr.merge hle r,G1',q,rfl⟩
structure Cx where
 P:Program
 T:Tbl
 meth:TypeId->String->Option FuncId
structure ES (cx:Cx):Prop where
 tbl:gF cx.P cx.T
 meth:∀ t n f,cx.meth t n=some f->∀ (v:Value) w,(method (cx.P.types.size+Made.depth) t v n).run cx.P w=.ok (f,v) w
def Op.isE (T:Tbl):Op->Bool
 | .alloc _ | .box _ _ | .buildSlice _ _ _ | .makeSlice _ _ _ | .makeMap _ _ | .store _ _ _ | .mapUpdate _ _ _ _ | .insert _ _ _ _=>true
 | .convert _ d _=>match T d with
  | some i=>match i.desc with
   | .slice _=>true
   | _=>false
  | none=>false
 | .call c=>match c.callee with
  | .builtin .append=>true
  | .builtin .copy=>true
  | .builtin _=>false
  | _=>true
 | _=>false
def qS (G:ak) (id:AId) (p:List Nat) (n st off:Nat) (cs':List ah):Option ak:=
 match G id with
 | some (.own tr)=>match sub p tr (off-st * n) with
  | some _=>some (G.upd id (.own (putAt p tr (.agg cs'))))
  | none=>none
 | _=>none
def br (G:ak) (o:n6) (K:AId->ak->Prop):Prop:=∀ id,lE G id->K id (G.upd id o)
def wg (o:Option ak) (K:ak->Prop):Prop:=
 match o with
 | some G=>K G
 | none=>False
def grow (i:TI) (G:ak) (olds vs:List ah) (K:ah->ak->Prop):Prop:=
 (olds.length+vs.length) * i.bytes≤140737488355328/\i.bytes≠0/\∀ id cap,lE G id->olds.length+vs.length≤cap->cap≤maxLen ->
  K (.slice id [] 0 0 (olds.length+vs.length) cap) (G.upd id (.own (.agg (olds++vs++List.replicate (cap-(olds.length+vs.length)) i.zero))))
def lay (i:TI) (G:ak) (id:AId) (p:List Nat) (st off at_:Nat) (vs:List ah) (K:ak->Prop):Prop:=
 match vs with
 | []=>K G
 | _ :: _=>
  match lO G i.size id p st off with
  | some cs=>st+at_+vs.length≤cs.length/\mz vs=true/\uni i.size vs=true ∧
   match qS G id p i.size st off (cs.take (st+at_)++vs++cs.drop (st+at_+vs.length)) with
   | some G'=>K G'
   | none=>False
  | none=>False
def rH (T:Tbl) (G:ak) (ts tx:TypeId) (s x:ah) (K:ah->ak->Prop):Prop:=
 match T ts,T tx with
 | some si,some xi=>
  match si.desc with
  | .slice e=>
   match T e with
   | some i=>
    (xi.desc=.string\/∃ e',xi.desc=.slice e') ∧
    match gq G i.size x with
    | some vs=>
     match s with
     | .nilSlice=>match vs with
      | []=>K .nilSlice G
      | v :: vs=>grow i G [] (v :: vs) K
     | .slice id p st off len cap=>
      (len+vs.length≤cap->lay i G id p st off len vs fun G'=>K (.slice id p st off (len+vs.length) cap) G') ∧
      (cap < len+vs.length->match gq G i.size (.slice id p st off len cap) with
       | some olds=>grow i G olds vs K
       | none=>False)
     | _=>False
    | none=>False
   | none=>False
  | _=>False
 | _,_=>False
structure cn (T:Tbl) (G:ak) (ts tx:TypeId) (s x:ah) (K:ah->ak->Prop):Prop where
 out:rH T G ts tx s x K
def wI (T:Tbl) (G:ak) (td:TypeId) (d x:ah) (K:ah->ak->Prop):Prop:=
 match T td with
 | some di=>
  match di.desc with
  | .slice e=>
   match T e with
   | some i=>
    match gq G i.size x with
    | some vs=>
     match d with
     | .nilSlice=>K (.int .i64 0) G
     | .slice id p st off len _=>lay i G id p st off 0 (vs.take len) fun G'=>K (.int .i64 (min vs.length len:Nat)) G'
     | _=>False
    | none=>False
   | none=>False
  | _=>False
 | none=>False
def gD (T:Tbl) (G:ak) (t:TypeId) (m k v:ah) (K:ak->Prop):Prop:=
 match T t with
 | some i=>
  match i.desc with
  | .map kt _=>
   match T kt with
   | some ki=>
    kY ki.desc k=true ∧
    match m with
    | .map id=>match G id with
     | some (.map es)=>match oA k es 0 with
      | some (some (j,_))=>K (G.upd id (.map (es.set j (k,v))))
      | some none=>K (G.upd id (.map (es++[(k,v)])))
      | none=>False
     | _=>False
    | _=>False
   | none=>False
  | _=>False
 | none=>False
def Le (i:TI) (G:ak) (n m:Int) (K:ah->ak->Prop):Prop:=
 0≤n/\n≤m/\(i.bytes:Int) * m≤281474976710656/\m≤9223372036854775807 ∧
  br G (.own (.agg (List.replicate m.toNat i.zero))) fun id G'=>K (.slice id [] 0 0 n.toNat m.toNat) G'
def J1 (G:ak) (l:List UInt8) (K:ah->ak->Prop):Prop:=
 l.length≤maxLen/\∀ cap,l.length≤cap->cap≤maxLen ->
  br G (.own (.agg (l.map (fun b=>.int .u8 b.toNat)++List.replicate (cap-l.length) (.int .u8 0)))) fun id G'=>K (.slice id [] 0 0 l.length cap) G'
structure Ld where
 idx:Nat
 t:TypeId
 a:ah
 v:ah
 s:Option TypeId
def Ld.val (T:Tbl) (G:ak) (e:Ld):Option ah:=
 match e.s with
 | none=>ag T G e.t e.a
 | some s=>gv T G s e.t e.a
def mh (t:Nat):List Nat->Bool
 | []=>false
 | x :: l=>bif Nat.beq t x then true else mh t l
def recheck (T:Tbl) (G':ak) (chk:List Nat):List Ld->Prop
 | []=>True
 | e :: ld=>bif mh e.idx chk then (e.val T G'=some e.v/\recheck T G' chk ld) else recheck T G' chk ld
def oS (P:Program) (f:ah) (args:List ah) (G:ak) (K:ah->ak->Prop):Prop:=
 match f with
 | .func (.func k) first captured=>al P k (first++args++captured) G K
 | _=>False
def uv (cx:Cx) (r:ah) (m:String) (args:List ah) (G:ak) (K:ah->ak->Prop):Prop:=
 match r with
 | .iface t v=>match cx.meth t m with
  | some k=>al cx.P k (v :: args) G K
  | none=>False
 | _=>False
def bu (T:Tbl) (t:TypeId) (len:Nat) (ps:List (Nat×ah)) (G:ak) (K:ah->ak->Prop):Prop:=
 match T t with
 | some si=>match si.desc with
  | .slice e=>match T e with
   | some i=>match nx (fun k=>some (k * i.size,i.size)) (List.replicate len i.zero) ps with
    | some cs=>len * i.size≤16777216/\br G (.own (.agg cs)) fun id G'=>K (.slice id [] 0 0 len len) G'
    | none=>False
   | none=>False
  | _=>False
 | none=>False
def lg (T:Tbl) (t:TypeId) (l c:ah) (G:ak) (K:ah->ak->Prop):Prop:=
 match T t,l,c with
 | some si,.int _ n,.int _ m=>match si.desc with
  | .slice e=>match T e with
   | some i=>Le i G n m K
   | none=>False
  | _=>False
 | _,_,_=>False
def nd (T:Tbl) (s d:TypeId) (x:ah) (G:ak) (K:ah->ak->Prop):Prop:=
 match T s,T d,x with
 | some _,some di,.str l=>match di.desc with
  | .slice e=>match T e with
   | some i=>i.desc=.int .u8/\J1 G l K
   | none=>False
  | _=>False
 | _,_,_=>False
def y5 (T:Tbl) (chk:List Nat) (ld:List Ld) (K:Option ah->ak->Prop):Option ah->ak->Prop:=
 match chk with
 | []=>K
 | _ :: _=>fun v G'=>recheck T G' chk ld/\K v G'
def jI (cx:Cx) (env:Env) (G:ak) (K:Option ah->ak->Prop):Op->Prop
 | .alloc e=>match cx.T e with
  | some i=>br G (.own i.zero) fun id G'=>K (some (.ptr id [] 0)) G'
  | none=>False
 | .box _ x=>match ev env x with
  | some v=>br G (.own v) fun id G'=>K (some (.ptr id [] 0)) G'
  | none=>False
 | .buildSlice t len parts=>match evp env parts.toList with
  | some ps=>bu cx.T t len ps G fun v G'=>K (some v) G'
  | none=>False
 | .makeSlice t l c=>match ev env l,ev env c with
  | some l',some c'=>lg cx.T t l' c' G fun v G'=>K (some v) G'
  | _,_=>False
 | .makeMap t none=>br G (.map []) fun id G'=>K (some (.map id)) G'
 | .store t a v=>match ev env a,ev env v with
  | some a',some v'=>wg (aF cx.T G t a' v') fun G'=>K none G'
  | _,_=>False
 | .mapUpdate t m k v=>match ev env m,ev env k,ev env v with
  | some m',some k',some v'=>gD cx.T G t m' k' v' fun G'=>K none G'
  | _,_,_=>False
 | .insert t m k v=>match ev env m,ev env k,ev env v with
  | some m',some k',some v'=>gD cx.T G t m' k' v' fun G'=>K none G'
  | _,_,_=>False
 | .convert s d x=>match ev env x with
  | some x'=>nd cx.T s d x' G fun v G'=>K (some v) G'
  | none=>False
 | .call c=>match c.callee with
  | .builtin .append=>match c.args.toList,c.argTypes.toList with
   | [s,x],[ts,tx]=>match ev env s,ev env x with
    | some s',some x'=>cn cx.T G ts tx s' x' fun v G'=>K (some v) G'
    | _,_=>False
   | _,_=>False
  | .builtin .copy=>match c.args.toList,c.argTypes.toList with
   | [d,x],[td,_]=>match ev env d,ev env x with
    | some d',some x'=>wI cx.T G td d' x' fun v G'=>K (some v) G'
    | _,_=>False
   | _,_=>False
  | .value f=>match ev env f,evs env c.args.toList with
   | some fv,some args=>oS cx.P fv args G fun v G'=>K (some v) G'
   | _,_=>False
  | .invoke r m=>match ev env r,evs env c.args.toList with
   | some rv,some args=>uv cx rv m args G fun v G'=>K (some v) G'
   | _,_=>False
  | _=>False
 | _=>False
end Go.Esc
