/- Steps towards the statements of this seat; the conditions stand in each theorem. -/
import Derived.Calls
import Derived.Deep.Quiet
import Derived.Below
import Derived.Orders
import Derived.Laws.Build
set_option linter.unusedVariables false
set_option linter.unusedSimpArgs false
namespace Go.Xt
structure ETy where
 tw:Nat
 te:Nat
 tj:Nat
 deriving DecidableEq,Repr,Inhabited
inductive PV where
 | int (k:IntKind) (n:Int)
 | bool (b:Bool)
 | str (s:ByteArray)
 | list (xs:List (List PV))
 | err (θ:ETy) (j:Bool) (l:List Int)
 deriving Inhabited
inductive Lit where
 | int (k:IntKind) (n:Int)
 | bool (b:Bool)
 | str (bs:List UInt8)
 | nil
 deriving DecidableEq,Repr,Inhabited
inductive Atom where
 | v (i:Nat)
 | c (l:Lit)
 | cell (l i:Atom) (j:Nat)
 deriving DecidableEq,Repr,Inhabited
def Lit.pv:Lit→PV
 | .int k n=>.int k n
 | .bool b=>.bool b
 | .str bs=>.str ⟨bs.toArray⟩
 | .nil=>.list []
def look:List PV→Nat→PV
 | [],_=>.bool false
 | x::_,0=>x
 | _::r,n+1=>look r n
def PV.cellAt:PV→PV→Nat→PV
 | .list xs,.int _ n,j=>look (xs.getD n.toNat []) j
 | _,_,_=>.bool false
def den(env:List PV):Atom→PV
 | .v i=>look env i
 | .c l=>l.pv
 | .cell l i j=>(den env l).cellAt (den env i) j
inductive POp where
 | bin (op:BinOp)
 | beq (neg:Bool)
 | un (op:UnOp)
 | conv (k:IntKind)
 | len
 | isl
 | idx (es:Nat)
 | slice (es:Nat) (lo hi:Bool)
 | app (es bytes:Nat)
 | rows (es:Nat)
 | repl (bytes:Nat) (zs:List Lit)
 | set (j:Nat)
 | pickA
 | mn
 | mx
 | sel
 | eqs (neg:Bool) (ks:List Bool)
 deriving DecidableEq,Repr
inductive Cap where
 | at (a:Atom)
 | ptr (b off:Nat)
 | agg (as:List Atom)
 deriving DecidableEq,Repr
inductive C where
 | at (a:Atom)
 | nil0
 | own (b:Nat)
 | bor (b:Nat) (a:Atom)
 | ptr (b off:Nat)
 | aptr (b:Nat) (i:Atom) (off:Nat)
 | eptr (bo:Option Nat) (l i:Atom) (off m:Nat)
 | fn (K:Nat) (caps:List Cap)
 | undef
 | junk
 deriving DecidableEq,Repr
inductive SV where
 | one (c:C)
 | agg (cs:List C)
 | tup (ps:List (Bool×List C))
 deriving DecidableEq,Repr
inductive Blk where
 | box (cs:List C)
 | arr (es:Nat) (a:Atom)
 deriving DecidableEq,Repr
structure CS where
 slots:List (Nat×SV)
 heap:List (Nat×Blk)
 known:List (Atom×Bool)
 d:Nat
 nl:Nat
 fb:Nat
 nt:Nat
 nf:Nat
 deriving DecidableEq,Repr
inductive T where
 | ret (as:List Atom)
 | op (o:POp) (as:List Atom) (k:T)
 | ite (c:Atom) (t e:T)
 | call (K:Nat) (as:List Atom) (m:Nat) (k:T)
 | loop (as:List Atom) (body:T)
 | next (l:Nat) (as:List Atom)
 | sub (t:T) (m:Nat) (k:T)
 | nilq (a:Atom) (neg:Bool) (k:T)
 | alt (t e:T)
 | stop (cs:CS)
 deriving DecidableEq,Repr
def inr(k:IntKind)(n:Int):Prop:=k.min≤n∧n≤k.max
instance (k:IntKind) (n:Int):Decidable (inr k n):=by unfold inr;infer_instance
def lc(op:BinOp)(x y:PV):Option PV :=
 match x,y with
 | .int k a,.int k' b =>
  match op with
  | .shl=>if b<0 then none else some (.int k (k.wrap (a*2 ^ (min b.toNat k.bits))))
  | .shr=>if b<0 then none else some (.int k (a.fdiv (2 ^ (min b.toNat k.bits))))
  | _ =>
   if k=k' then
    match op with
    | .add=>some (.int k (k.wrap (a+b)))
    | .sub=>some (.int k (k.wrap (a-b)))
    | .mul=>some (.int k (k.wrap (a*b)))
    | .quo=>if b=0 then none else some (.int k (k.wrap (a.tdiv b)))
    | .rem=>if b=0 then none else some (.int k (a.tmod b))
    | .and=>some (.int k (k.wrap (BitVec.ofInt k.bits a &&& BitVec.ofInt k.bits b).toNat))
    | .or=>some (.int k (k.wrap (BitVec.ofInt k.bits a ||| BitVec.ofInt k.bits b).toNat))
    | .xor=>some (.int k (k.wrap (BitVec.ofInt k.bits a ^^^ BitVec.ofInt k.bits b).toNat))
    | .andNot=>some (.int k (k.wrap (BitVec.ofInt k.bits a &&& ~~~BitVec.ofInt k.bits b).toNat))
    | .eql=>some (.bool (a == b))
    | .neq=>some (.bool (a != b))
    | .lss=>some (.bool (decide (a<b)))
    | .leq=>some (.bool (decide (a≤b)))
    | .gtr=>some (.bool (decide (a>b)))
    | .geq=>some (.bool (decide (a≥b)))
    | _=>none
   else none
 | _,_=>none
def qF(es:Nat):List (List PV)→Bool
 | []=>true
 | r::_=>r.length == es
def PV.eqv:PV→Bool→PV→Option Bool
 | .int k a,true,.int k' b=>if k=k' then some (a == b) else none
 | .bool a,false,.bool b=>some (a == b)
 | _,_,_=>none
def sJ:List Bool→List PV→List PV→Option Bool
 | [],[],[]=>some true
 | k::ks,x::xs,y::ys=>(x.eqv k y).bind fun b=>(sJ ks xs ys).map (b&& ·)
 | _,_,_=>none
def cz(es:Nat):Nat→List PV→List (List PV)
 | 0,_=>[]
 | n+1,l=>l.take es::cz es n (l.drop es)
def sK(n bytes:Nat):Bool:=decide (n*bytes≤140737488355328)
def ev(o:POp)(as:List PV):Option PV :=
 match o,as with
 | .bin op,[x,y]=>lc op x y
 | .beq neg,[.bool a,.bool b]=>some (.bool (if neg then !(a == b) else a == b))
 | .un .not,[.bool b]=>some (.bool (!b))
 | .un .neg,[.int k n]=>some (.int k (k.wrap (0-n)))
 | .conv k,[.int _ n]=>some (.int k (k.wrap n))
 | .len,[.list xs]=>some (.int .i64 xs.length)
 | .isl,[.list _]=>some (.bool true)
 | .idx es,[.list xs,.int k i]=>if 0≤i∧i<xs.length∧qF es xs=true then some (.int k i) else none
 | .slice _ false false,[.list xs]=>some (.list xs)
 | .slice es true false,[.list xs,.int _ l]=>if 0≤l∧l≤xs.length∧qF es xs=true then some (.list (xs.drop l.toNat)) else none
 | .slice es false true,[.list xs,.int _ h]=>if 0≤h∧h≤xs.length∧qF es xs=true then some (.list (xs.take h.toNat)) else none
 | .slice es true true,[.list xs,.int _ l,.int _ h]=>if 0≤l∧l≤h∧h≤xs.length∧qF es xs=true then some (.list ((xs.take h.toNat).drop l.toNat)) else none
 | .app es bytes,[.list xs,.list ys]=>if sK (xs.length+ys.length) bytes=true∧qF es xs=true∧qF es ys=true then some (.list (xs++ys)) else none
 | .rows es,vs=>if 0<es∧vs.length % es=0 then some (.list (cz es (vs.length / es) vs)) else none
 | .repl bytes zs,[.int _ n]=>if 0≤n∧sK n.toNat bytes=true then some (.list (List.replicate n.toNat (zs.map Lit.pv))) else none
 | .set j,[.list xs,.int _ i,v]=>if 0≤i∧i<xs.length then some (.list (xs.set i.toNat ((xs.getD i.toNat []).set j v))) else none
 | .pickA,.int _ i::vs=>if 0≤i∧i<vs.length then some (look vs i.toNat) else none
 | .mn,[.int k x,.int k' y]=>if k=k' then some (.int k (if y<x then y else x)) else none
 | .mx,[.int k x,.int k' y]=>if k=k' then some (.int k (if y>x then y else x)) else none
 | .sel,[.bool b,x,y]=>some (if b then x else y)
 | .eqs neg ks,vs=>(sJ ks (vs.take ks.length) (vs.drop ks.length)).map fun b=>.bool (if neg then !b else b)
 | _,_=>none
abbrev Fns:=Nat→List PV→Option (List PV)
def sA:PV→Prop
 | .int k n=>inr k n
 | .bool _=>True
 | .str _=>True
 | .list xs=>xs.length≤2 ^ 63-1
 | .err _ _ _=>True
def K1:PV→Option Bool
 | .bool b=>some b
 | _=>none
def EvN(ρ:Fns):Nat→T→List PV→List (T×Nat)→(List PV→Prop)→Prop
 | 0,_,_,_,_=>False
 | n+1,t,env,L,Q =>
  match t with
  | .ret as=>Q (as.map (den env))
  | .op o as k=>match ev o (as.map (den env)) with
   | some v=>EvN ρ n k (env++[v]) L Q
   | none=>False
  | .ite c t e=>match K1 (den env c) with
   | some true=>EvN ρ n t env L Q
   | some false=>EvN ρ n e env L Q
   | none=>False
  | .call K as m k=>match ρ K (as.map (den env)) with
   | some rs=>rs.length=m∧((∀p∈rs,sA p)→EvN ρ n k (env++rs) L Q)
   | none=>False
  | .loop as b=>EvN ρ n b (env++as.map (den env)) (L++[(b,env.length)]) Q
  | .next l as=>match L[l]? with
   | some (b,m)=>EvN ρ n b (env.take m++as.map (den env)) (L.take (l+1)) Q
   | none=>False
  | .sub t m k=>EvN ρ n t env [] fun rs=>rs.length=m∧EvN ρ n k (env++rs) L Q
  | .nilq a neg k=>match den env a with
   | .list xs=> ∀b:Bool,(b=true→xs=[])→EvN ρ n k (env++[.bool (if neg then !b else b)]) L Q
   | _=>False
  | .alt t e=>EvN ρ n t env L Q∧EvN ρ n e env L Q
  | .stop _=>False
def oR:Value→Option C
 | .int k n=>if inr k n then some (.at (.c (.int k n))) else none
 | .bool b=>some (.at (.c (.bool b)))
 | .slice A n c=>if A.isNone&&decide (n=0)&&decide (c=0) then some .nil0 else none
 | .string s=>some (.at (.c (.str s.data.toList)))
 | .nilIface=>some .junk
 | .pointer a=>if a.isNone then some .junk else none
 | _=>none
def av{α:Type}:List (Nat×α)→Nat→Option α
 | [],_=>none
 | (k,v)::r,t=>if k=t then some v else av r t
def P8{α:Type}:List (Nat×α)→Nat→α→List (Nat×α)
 | [],t,v=>[(t,v)]
 | (k,u)::r,t,v=>if k=t then (k,v)::r else (k,u)::P8 r t v
def MH{α:Type}:List (Nat×α)→Nat→List (Nat×α)
 | [],_=>[]
 | (k,u)::r,t=>if k=t then MH r t else (k,u)::MH r t
def az(cs:CS):Operand→Option SV
 | .tmp t=>if t<cs.nt then av cs.slots (cs.fb+t) else none
 | .const v=>(oR v).map .one
 | .func f=>some (.one (.fn f []))
 | .global _=>none
def Cap.has(b:Nat):Cap→Bool
 | .ptr b' _=>b' == b
 | _=>false
def C.drop(b:Nat):C→C
 | .own b'=>if b'=b then .junk else .own b'
 | .bor b' a=>if b'=b then .junk else .bor b' a
 | .ptr b' o=>if b'=b then .junk else .ptr b' o
 | .aptr b' i o=>if b'=b then .junk else .aptr b' i o
 | .eptr bo l i o m=>if bo=some b then .junk else .eptr bo l i o m
 | .fn K caps=>if caps.any (Cap.has b) then .junk else .fn K caps
 | c=>c
def C.wrote(b:Nat):C→C
 | .bor b' a=>if b'=b then .junk else .bor b' a
 | .eptr bo l i o m=>if bo=some b then .junk else .eptr bo l i o m
 | c=>c
def C.freeze(b es:Nat)(a:Atom):C→C
 | .own b'=>if b'=b then .at a else .own b'
 | .bor b' x=>if b'=b then .at x else .bor b' x
 | .aptr b' i o=>if b'=b then .eptr none a i o es else .aptr b' i o
 | .eptr bo l i o m=>if bo=some b then .eptr none l i o m else .eptr bo l i o m
 | .ptr b' o=>if b'=b then .junk else .ptr b' o
 | .fn K caps=>if caps.any (Cap.has b) then .junk else .fn K caps
 | c=>c
def SV.map(f:C→C):SV→SV
 | .one c=>.one (f c)
 | .agg cs=>.agg (cs.map f)
 | .tup ps=>.tup (ps.map fun p=>(p.1,p.2.map f))
def Blk.map(f:C→C):Blk→Blk
 | .box cs=>.box (cs.map f)
 | .arr es a=>.arr es a
def CS.map(f:C→C)(cs:CS):CS :=
  { cs with slots:=cs.slots.map fun p=>(p.1,p.2.map f),heap:=cs.heap.map fun p=>(p.1,p.2.map f) }
def CS.dropB(cs:CS)(b:Nat):CS:={ (cs.map (C.drop b)) with heap:=MH (cs.map (C.drop b)).heap b }
def CS.freezeB(cs:CS)(b:Nat):CS :=
 match av cs.heap b with
 | some (.arr es a)=>{ (cs.map (C.freeze b es a)) with heap:=MH (cs.map (C.freeze b es a)).heap b }
 | _=>cs
def CS.listOf(cs:CS):C→Option Atom
 | .at a=>some a
 | .nil0=>some (.c .nil)
 | .own b=>match av cs.heap b with
  | some (.arr _ a)=>some a
  | _=>none
 | .bor _ a=>some a
 | _=>none
def CS.plain(cs:CS):C→Option (Atom×CS×(C→C))
 | .at a=>some (a,cs,fun c=>c)
 | .nil0=>some (.c .nil,cs,fun c=>c)
 | .own b=>match av cs.heap b with
  | some (.arr es a)=>some (a,cs.freezeB b,C.freeze b es a)
  | _=>none
 | .bor b x=>match av cs.heap b with
  | some (.arr es a)=>some (x,cs.freezeB b,C.freeze b es a)
  | _=>none
 | _=>none
def wt:Nat→CS→List C→Option (List Atom×CS×(C→C))
 | _,cs,[]=>some ([],cs,fun c=>c)
 | 0,_,_::_=>none
 | n+1,cs,c::r=>(cs.plain c).bind fun x=>(wt n x.2.1 (r.map x.2.2)).map fun y=>(x.1::y.1,y.2.1,fun c=>y.2.2 (x.2.2 c))
def CS.plains(cs:CS)(l:List C):Option (List Atom×CS×(C→C)):=wt l.length cs l
def CS.lists(cs:CS):List C→Option (List Atom)
 | []=>some []
 | c::r=>(cs.listOf c).bind fun a=>(cs.lists r).bind fun as=>some (a::as)
def oy:List C→Option (List Atom)
 | []=>some []
 | .at a::r=>(oy r).map (a:: ·)
 | .nil0::r=>(oy r).map (.c .nil:: ·)
 | _=>none
def SV.cells:SV→List C
 | .one c=>[c]
 | .agg cs=>cs
 | .tup _=>[]
def aD(P:Program)(t:TypeId):Bool :=
 match P.underlying t with
 | some (.struct _) | some (.array _ _)=>true
 | _=>false
def fe(P:Program)(t:TypeId):Bool :=
 match P.underlying t with
 | some (.int _) | some .bool | some .string=>true
 | _=>false
def fg(P:Program)(t:TypeId):Option TypeId :=
 match P.underlying t with
 | some (.slice e)=>some e
 | _=>none
def CS.put(cs:CS)(dst:Option Tmp)(sv:SV):CS :=
 match dst with
 | some d=>{ cs with slots:=P8 cs.slots (cs.fb+d) sv }
 | none=>cs
def AH(o:POp)(as:List Atom)(cs:CS)(k:Atom→CS→Option T):Option T :=
 (k (.v cs.d) { cs with d:=cs.d+1 }).map (T.op o as)
def sub?{α:Type}(l:List α)(off n:Nat):Option (List α) :=
 if off+n≤l.length then some ((l.drop off).take n) else none
def name(cs:CS)(dst:Option Tmp):Option Nat:=dst.map fun d=>(cs.fb+d)*64
def CS.newB(cs:CS)(b:Nat)(blk:Blk):CS :=
  { (cs.dropB b) with heap:=(b,blk.map (C.drop b))::(cs.dropB b).heap }
def wu(cs:CS)(n:Nat):C→Option (List C)
 | .ptr b off=>match av cs.heap b with
  | some (.box l)=>sub? l off n
  | _=>none
 | .eptr _ l i off m=>if off+n≤m then some ((List.range n).map fun j=>.at (.cell l i (off+j))) else none
 | .aptr b i off=>match av cs.heap b with
  | some (.arr es a)=>if off+n≤es then some ((List.range n).map fun j=>.at (.cell a i (off+j))) else none
  | _=>none
 | _=>none
def C.storable:C→Bool
 | .junk=>false
 | .undef=>false
 | _=>true
def setL{α:Type}:List α→Nat→List α→List α
 | l,_,[]=>l
 | l,o,x::xs=>setL (l.set o x) (o+1) xs
def CS.writeB(cs:CS)(b:Nat)(blk:Blk):CS:={ (cs.map (C.wrote b)) with heap:=P8 (cs.map (C.wrote b)).heap b (blk.map (C.wrote b)) }
def sL(i:Atom):(off:Nat)→List Atom→Atom→CS→(Atom→CS→Option T)→Option T
 | _,[],a,cs,k=>k a cs
 | off,x::xs,a,cs,k=>AH (.set off) [a,i,x] cs fun a' cs1=>sL i (off+1) xs a' cs1 k
def AJ(cs:CS)(p:C)(xs:List C)(k:CS→Option T):Option T :=
 match p with
 | .ptr b off=>match av cs.heap b with
  | some (.box l) =>
   if xs.all C.storable&&decide (off+xs.length≤l.length) then k (cs.writeB b (.box (setL l off xs))) else none
  | _=>none
 | .aptr _ _ _ =>
  (cs.plains xs).bind fun x =>
   match x.2.2 p with
   | .aptr b i off=>match av x.2.1.heap b with
    | some (.arr es a)=>if off+xs.length≤es then sL i off x.1 a x.2.1 fun a' cs2=>k (cs2.writeB b (.arr es a')) else none
    | _=>none
   | _=>none
 | _=>none
def wv:List Value→Option (List C)
 | []=>some []
 | v::r=>(oR v).bind fun c=>(wv r).map (c:: ·)
def yV(P:Program)(t:TypeId):Option (List C) :=
 ((P.info? t).bind (·.zero)).bind fun z=>wv z.cells.toList
def qG(P:Program)(e:TypeId):Bool :=
 match P.info? e with
 | some i=>decide (0<i.size)&&decide (0<i.bytes)&&(match i.zero with | some z=>decide (z.cells.size=i.size) | none=>false)
 | none=>false
def uS:List C→Option (List Lit)
 | []=>some []
 | .at (.c l)::r=>(uS r).map (l:: ·)
 | .nil0::r=>(uS r).map (.nil:: ·)
 | _=>none
def AK(P:Program)(fs:Array Field):Option (List (Nat×Nat)):=fs.toList.mapM (fun f=>(P.info? f.type).map fun i=>(f.offset,i.size))
def cd(cs:CS):List Operand→Option (List SV)
 | []=>some []
 | x::r=>(az cs x).bind fun v=>(cd cs r).bind fun vs=>some (v::vs)
def SV.isTup:SV→Bool
 | .tup _=>true
 | _=>false
def yW(jp:Nat→Option (Nat×Nat)):List C→List (Nat×SV)→Option (List C)
 | cells,[]=>some cells
 | cells,(i,sv)::r =>
  (jp i).bind fun (off,n) =>
   if decide (sv.cells.length=n)&&sv.cells.all C.storable&&decide (off+n≤cells.length)&& !sv.isTup then yW jp (setL cells off sv.cells) r else none
def oz(P:Program)(d:Nat):List TypeId→List (Bool×List C)×Nat
 | []=>([],d)
 | t::r =>
  let n:=if aD P t then P.cellsOf t else 1
  let rest:=oz P (d+n) r
  ((aD P t,(List.range n).map fun j=>.at (.v (d+j)))::rest.1,rest.2)
def Gx:Bool×List C→SV
 | (true,cs)=>.agg cs
 | (false,cs)=>.one (cs.headD .junk)
def FU:List (Bool×List C)→SV
 | [p]=>Gx p
 | ps=>.tup ps
structure Sig where
 K:Nat
 own:List Nat:=[]
 ip:Option Bool:=none
 flat:Bool:=false
def Q3(P:Program):Nat→TypeId→List TypeId
 | 0,t=>[t]
 | n+1,t=>match P.underlying t with
  | some (.struct fs)=>fs.toList.flatMap fun f=>Q3 P n f.type
  | some (.array m e)=>(List.replicate m (Q3 P n e)).flatten
  | _=>[t]
def uT(P:Program)(fn:Func)(j:Nat):Nat :=
 match ((fn.resultTypes.toList.flatMap (Q3 P 8))[j]?).bind (fg P) with
 | some e=>P.cellsOf e
 | none=>0
def shT(P:Program)(t:TypeId):Option Nat:=if aD P t then some (P.cellsOf t) else none
def SV.shape:SV→Option Nat
 | .agg l=>some l.length
 | _=>none
inductive Ex where
 | normal
 | exit (id:Nat)
 | ret
 deriving DecidableEq,Repr
abbrev lf:=Ex→CS→Option T
def Og:SV→Option Cap
 | .one (.at a)=>some (.at a)
 | .one (.ptr b o)=>some (.ptr b o)
 | .one .nil0=>some (.at (.c .nil))
 | .agg cs'=>(oy cs').map .agg
 | _=>none
def ye:List SV→Option (List Cap)
 | []=>some []
 | v::r=>(Og v).bind fun c=>(ye r).map (c:: ·)
def SM:Cap→SV
 | .at a=>.one (.at a)
 | .ptr b o=>.one (.ptr b o)
 | .agg as=>.agg (as.map .at)
section
variable (P:Program)(tab:List Sig)(inl:Code→CS→lf→Option T)
def sM:List Sig→Nat→Option Sig
 | [],_=>none
 | s::r,K=>if s.K=K∧s.ip=none then some s else sM r K
def AL:List Sig→Nat→Option Bool
 | [],_=>none
 | s::r,K=>if s.K=K∧s.ip.isSome=true then s.ip else AL r K
def K2:List Sig→Nat→Bool
 | [],_=>false
 | s::r,K=>if s.K=K∧s.ip.isSome=true then !s.own.isEmpty else K2 r K
def ww:List SV→Option (List Atom)
 | []=>some []
 | .one (.at a)::r=>(ww r).map (a:: ·)
 | _=>none
def wx(K:Nat):Nat :=
 match (P.funcs[K]?).bind fun fn=>fn.params.toList.head?.bind (fg P) with
 | some e=>P.cellsOf e
 | none=>0
def MI(nl:Bool)(dst:Option Tmp)(K:Nat)(fin:Bool)(args:List SV)(cs:CS)(k:SV→CS→Option T):Option T :=
 match args with
 | .one (.own b)::rest =>
  match av cs.heap b,ww rest with
  | some (.arr es a),some as =>
   if es=wx P K∧nl=false then
    match fin with
    | true=>(k (.one (.own b)) { (cs.newB b (.arr es (.v cs.d))) with d:=cs.d+1 }).map (T.call K (a::as) 1)
    | false=>(k (.tup []) { (cs.writeB b (.arr es (.v cs.d))) with d:=cs.d+1 }).map (T.call K (a::as) 1)
   else none
  | _,_=>none
 | .one .nil0::rest =>
  match name cs dst,ww rest,fin with
  | some b,some as,true =>
   if 0<wx P K then (k (.one (.own b)) { (cs.newB b (.arr (wx P K) (.v cs.d))) with d:=cs.d+1 }).map (T.call K (.c .nil::as) 1) else none
  | _,_,_=>none
 | _=>none
def fh(cs:CS):List ResultVar→Option (List (Bool×List C))
 | []=>some []
 | .tmp t::r=>(az cs (.tmp t)).bind fun sv=>match sv with
  | .one c=>(fh cs r).map ((false,[c]):: ·)
  | .agg cs'=>(fh cs r).map ((true,cs'):: ·)
  | .tup _=>none
 | .cell t ty::r=>(az cs (.tmp t)).bind fun sv=>match sv with
  | .one p=>if (P.underlying ty).isSome then (wu cs (if aD P ty then P.cellsOf ty else 1) p).bind fun l=>(fh cs r).map ((aD P ty,l):: ·) else none
  | _=>none
def jk(fb:Nat):Nat→List SV→List (Nat×SV)
 | _,[]=>[]
 | i,v::r=>(fb+i,v)::jk fb (i+1) r
def nA:List SV→List C
 | []=>[]
 | v::r=>v.cells++nA r
def wy(fn:Func)(flat:Bool)(args:List SV)(cs:CS):Option (List Atom×CS) :=
 if args.all (fun v=> !v.isTup&&v.cells.all C.storable)&&decide (args.map SV.shape=fn.params.toList.map (shT P)) then
  if fn.resultTypes.toList.all (fe P)||flat then (cs.lists (nA args)).map fun as=>(as,cs) else (cs.plains (nA args)).map fun x=>(x.1,x.2.1)
 else none
def MJ:List Nat→Nat→List (Nat×Nat)
 | [],_=>[]
 | j::r,b=>(j,b)::MJ r (if b % 64=0 then b+32 else b+2)
def Dg(d:Nat):List (Nat×Nat)→C→C
 | [],c=>c
 | p::r,c=>if c=.at (.v (d+p.1)) then .own p.2 else Dg d r c
def dP(fn:Func)(d:Nat):List (Nat×Nat)→CS→CS
 | [],cs=>cs
 | p::r,cs=>dP fn d r (cs.newB p.2 (.arr (uT P fn p.1) (.v (d+p.1))))
def wz(dst:Option Tmp)(K:Nat)(fn:Func)(own:List Nat)(as:List Atom)(cs:CS)(k:SV→CS→Option T):Option T :=
 let rs:=oz P cs.d fn.resultTypes.toList
 match own with
 | []=>(k (FU rs.1) { cs with d:=rs.2 }).map (T.call K as (rs.2-cs.d))
 | j::js =>
  (name cs dst).bind fun b =>
   let l:=MJ (j::js) b
   if (∀p∈l,0<uT P fn p.1∧p.1<rs.2-cs.d)∧(l.map (·.1)).Nodup∧(l.map (·.2)).Nodup then
    (k (FU (rs.1.map fun p=>(p.1,p.2.map (Dg cs.d l)))) { (dP P fn cs.d l cs) with d:=rs.2 }).map (T.call K as (rs.2-cs.d))
   else none
def nB(dst:Option Tmp)(K:Nat)(args:List SV)(cs:CS)(k:SV→CS→Option T):Option T :=
 match P.funcs[K]? with
 | none=>none
 | some fn =>
  match fn.body with
  | none=>none
  | some body =>
   match AL tab K with
   | some fin=>MI P (K2 tab K) dst K fin args cs k
   | none =>
   match sM tab K with
   | some s=>(wy P fn s.flat args cs).bind fun y=>wz P dst K fn s.own y.1 y.2 k
   | none =>
    if args.length≤fn.ntmps then
     let fb:=cs.nf
     let cs1:CS:={ cs with slots:=jk fb 0 args++cs.slots,fb:=fb,nt:=fn.ntmps,nf:=fb+fn.ntmps+1 }
     inl body cs1 fun e cs2 =>
      match e with
      | .exit _=>none
      | _=>(fh P cs2 fn.results.toList).bind fun ps =>
       k (FU ps) { cs2 with slots:=cs2.slots.filter (fun p=>decide (p.1<fb)),fb:=cs.fb,nt:=cs.nt }
    else none
inductive QR where
 | val (sv:SV)
 | em (o:POp) (as:List Atom) (f:Atom→SV)
def yf(cs:CS):Atom→Option Bool
 | .c (.bool b)=>some b
 | a=>(cs.known.find? (fun p=>decide (p.1=a))).map (·.2)
def K3(x:C)(r:Atom):C :=
 match x with
 | .own b=>.bor b r
 | .bor b _=>.bor b r
 | _=>.at r
def okT(P:Program)(t:TypeId):Bool:=(P.info? t).isSome
def vF(P:Program):Nat→List Field→Option (List Bool)
 | _,[]=>some []
 | k,f::fs =>
  if f.offset=k∧f.name≠ "_" then
   match P.underlying f.type with
   | some (.int _)=>(vF P (k+1) fs).map (true:: ·)
   | some .bool=>(vF P (k+1) fs).map (false:: ·)
   | _=>none
  else none
def MK(P:Program)(t:TypeId)(fs:List Field):Option (List Bool) :=
 if P.stoodInHeld t||P.eqGuardType P.depth t then none else vF P 0 fs
def opA(o:Op)(cs:CS):Option QR :=
 match o with
 | .move x | .assign x=>(az cs x).map .val
 | .binOp op t x y _ =>
  match az cs x,az cs y,P.underlying t with
  | some (.one (.at a)),some (.one (.at b)),some (.int _)=>some (.em (.bin op) [a,b] fun r=>.one (.at r))
  | some (.one (.at a)),some (.one (.at b)),some .bool =>
   match op with
   | .eql=>some (.em (.beq false) [a,b] fun r=>.one (.at r))
   | .neq=>some (.em (.beq true) [a,b] fun r=>.one (.at r))
   | _=>none
  | some (.agg xs),some (.agg ys),some (.struct fs) =>
   (MK P t fs.toList).bind fun ks=>(oy xs).bind fun as=>(oy ys).bind fun bs =>
    if as.length=ks.length∧bs.length=ks.length then
     match op with
     | .eql=>some (.em (.eqs false ks) (as++bs) fun r=>.one (.at r))
     | .neq=>some (.em (.eqs true ks) (as++bs) fun r=>.one (.at r))
     | _=>none
    else none
  | _,_,_=>none
 | .makeInterface t _=>if P.concrete t then some (.val (.one .junk)) else none
 | .unOp op _ x =>
  match az cs x with
  | some (.one (.at a))=>some (.em (.un op) [a] fun r=>.one (.at r))
  | _=>none
 | .convert s t x =>
  match az cs x,P.underlying t,P.underlying s with
  | some (.one (.at a)),some (.int ik),some _=>some (.em (.conv ik) [a] fun r=>.one (.at r))
  | _,_,_=>none
 | .indexAddr t x i =>
  match az cs x,az cs i with
  | some (.one x),some (.one (.at i)) =>
   match P.underlying t with
   | some (.slice e) =>
    if okT P e&&decide (0<P.cellsOf e) then
     match x with
     | .own b=>(cs.listOf x).map fun a=>.em (.idx (P.cellsOf e)) [a,i] fun r=>.one (.aptr b r 0)
     | .bor b a=>some (.em (.idx (P.cellsOf e)) [a,i] fun r=>.one (.eptr (some b) a r 0 (P.cellsOf e)))
     | .at a=>some (.em (.idx (P.cellsOf e)) [a,i] fun r=>.one (.eptr none a r 0 (P.cellsOf e)))
     | .nil0=>some (.em (.idx (P.cellsOf e)) [.c .nil,i] fun r=>.one (.eptr none (.c .nil) r 0 (P.cellsOf e)))
     | _=>none
    else none
   | some (.array n e) =>
    if okT P e then
     match x,i with
     | .ptr b off,.c (.int _ m)=>if 0≤m∧m<n then some (.val (.one (.ptr b (off+m.toNat*P.cellsOf e)))) else none
     | _,_=>none
    else none
   | _=>none
  | _,_=>none
 | .fieldAddr t x f =>
  match az cs x,P.underlying t with
  | some (.one x),some (.struct fs) =>
   match fs[f]? with
   | some fd =>
    if P.cellsOf fd.type=0 then none else
    match x with
    | .ptr b off=>some (.val (.one (.ptr b (off+fd.offset))))
    | .aptr b i off=>some (.val (.one (.aptr b i (off+fd.offset))))
    | .eptr bo l i off m=>some (.val (.one (.eptr bo l i (off+fd.offset) m)))
    | _=>none
   | none=>none
  | _,_=>none
 | .load t x =>
  match az cs x,P.underlying t with
  | some (.one p),some _ =>
   if aD P t then (wu cs (P.cellsOf t) p).map fun l=>.val (.agg l)
   else (wu cs 1 p).map fun l=>.val (.one (l.headD .junk))
  | _,_=>none
 | .field t x f =>
  match az cs x,P.underlying t with
  | some (.agg l),some (.struct fs) =>
   match fs[f]? with
   | some fd =>
    if (P.underlying fd.type).isSome then
     (sub? l fd.offset (if aD P fd.type then P.cellsOf fd.type else 1)).map fun l=>.val (if aD P fd.type then .agg l else .one (l.headD .junk))
    else none
   | none=>none
  | _,_=>none
 | .index t x i =>
  match az cs x,az cs i,P.underlying t with
  | some (.agg l),some (.one (.at i)),some (.array n e) =>
   if decide (P.cellsOf e=1)&& !aD P e&&(P.underlying e).isSome&&decide (l.length=n) then
    (oy l).map fun as=>.em .pickA (i::as) fun r=>.one (.at r)
   else none
  | _,_,_=>none
 | .extract x i =>
  match az cs x with
  | some (.tup ps)=>(ps[i]?).map fun p=>.val (Gx p)
  | _=>none
 | .nilCheck x =>
  match az cs x with
  | some (.one (.ptr b o))=>some (.val (.one (.ptr b o)))
  | some (.one (.aptr b i o))=>some (.val (.one (.aptr b i o)))
  | some (.one (.eptr b l i o m))=>some (.val (.one (.eptr b l i o m)))
  | some (.one (.fn K caps))=>some (.val (.one (.fn K caps)))
  | _=>none
 | .pick c x y =>
  match az cs c with
  | some (.one (.at a)) =>
   match yf cs a with
   | some true=>(az cs x).map .val
   | some false=>(az cs y).map .val
   | none =>
    match az cs x,az cs y with
    | some (.one (.at u)),some (.one (.at w))=>some (.em .sel [a,u,w] fun r=>.one (.at r))
    | _,_=>none
  | _=>none
 | .slice t x lo hi mx =>
  match az cs x,P.underlying t with
  | some (.one x),some (.slice e) =>
   if okT P e then
    match mx with
    | some m =>
     match lo,hi.map (az cs),az cs m with
     | none,some (some (.one (.at (.c (.int _ 0))))),some (.one (.at (.c (.int _ 0))))=>(cs.listOf x).map fun a=>.em .isl [a] fun _=>.one .nil0
     | _,_,_=>none
    | none =>
     (cs.listOf x).bind fun a =>
      match lo.map (az cs),hi.map (az cs) with
      | some (some (.one (.at l))),none=>some (.em (.slice (P.cellsOf e) true false) [a,l] fun r=>.one (K3 x r))
      | none,some (some (.one (.at h)))=>some (.em (.slice (P.cellsOf e) false true) [a,h] fun r=>.one (K3 x r))
      | some (some (.one (.at l))),some (some (.one (.at h)))=>some (.em (.slice (P.cellsOf e) true true) [a,l,h] fun r=>.one (K3 x r))
      | _,_=>none
   else none
  | _,_=>none
 | .makeFunc (.func f) first caps =>
  if first.size=0 then
   (cd cs caps.toList).bind fun vs=>(ye vs).map fun cp=>.val (.one (.fn f cp))
  else none
 | .build t parts =>
  (yV P t).bind fun z=>(cd cs (parts.toList.map (·.2))).bind fun vs =>
   match P.underlying t with
   | some (.struct fs)=>(AK P fs).bind fun pl=>(yW (pl[·]?) z ((parts.toList.map (·.1)).zip vs)).map fun l=>.val (.agg l)
   | some (.array _ e)=>if okT P e then (yW (fun i=>some (i*P.cellsOf e,P.cellsOf e)) z ((parts.toList.map (·.1)).zip vs)).map fun l=>.val (.agg l) else none
   | _=>none
 | .call { callee:=.builtin .len,args:=args,argTypes:=ts } =>
  match cd cs args.toList,ts.toList with
  | some [.one x],[t]=>if (fg P t).isSome then (cs.listOf x).map fun a=>.em .len [a] fun r=>.one (.at r) else none
  | _,_=>none
 | .call { callee:=.builtin .min,args:=args,.. } =>
  match cd cs args.toList with
  | some [.one (.at a),.one (.at b)]=>some (.em .mn [a,b] fun r=>.one (.at r))
  | _=>none
 | .call { callee:=.builtin .max,args:=args,.. } =>
  match cd cs args.toList with
  | some [.one (.at a),.one (.at b)]=>some (.em .mx [a,b] fun r=>.one (.at r))
  | _=>none
 | _=>none
def AM(o:Oper)(cs:CS)(k:SV→CS→Option T):Option T :=
 match o.op with
 | .store t p x =>
  match az cs p,az cs x with
  | some (.one p),some v=>if decide (v.cells.length=P.cellsOf t)&&okT P t&&v.cells.all C.storable&& !v.isTup then AJ cs p v.cells fun cs=>k (.one .undef) cs else none
  | _,_=>none
 | .panic _=>some (.stop ⟨[],[],[],0,0,0,0,0⟩)
 | .nilCheck x =>
  match az cs x with
  | some (.one .junk)=>some (.stop ⟨[],[],[],0,0,0,0,0⟩)
  | _=>none
 | .binOp op t x (.const (.slice none 0 0)) _ =>
  match az cs x,fg P t with
  | some (.one x),some _ =>
   match op with
   | .eql=>(cs.listOf x).bind fun a=>(k (.one (.at (.v cs.d))) { cs with d:=cs.d+1 }).map (T.nilq a false)
   | .neq=>(cs.listOf x).bind fun a=>(k (.one (.at (.v cs.d))) { cs with d:=cs.d+1 }).map (T.nilq a true)
   | _=>none
  | _,_=>none
 | .alloc t =>
  (yV P t).bind fun z=>(name cs o.dst).bind fun b=>k (.one (.ptr b 0)) (cs.newB b (.box z))
 | .box t x =>
  match az cs x,name cs o.dst with
  | some v,some b=>if v.cells.all C.storable&& !v.isTup then k (.one (.ptr b 0)) (cs.newB b (.box v.cells)) else none
  | _,_=>none
 | .buildSlice t n parts =>
  (cd cs (parts.toList.map (·.2))).bind fun vs=>(fg P t).bind fun e=>(name cs o.dst).bind fun b =>
   if decide (parts.toList.map (·.1)=List.range n)&&decide (n≤64)&&qG P e&&decide (P.cellsOf e≤64)&&vs.all (fun v=>decide (v.cells.length=P.cellsOf e)&&v.cells.all C.storable&& !v.isTup) then
    (cs.plains (nA vs)).bind fun x =>
     AH (.rows (P.cellsOf e)) x.1 x.2.1 fun r cs=>k (.one (.own b)) (cs.newB b (.arr (P.cellsOf e) r))
   else none
 | .makeSlice t l c =>
  match az cs l,az cs c,fg P t,name cs o.dst with
  | some (.one (.at l)),some (.one (.at c)),some e,some b =>
   if decide (l=c)&&qG P e then
    (yV P e).bind fun z=>(uS z).bind fun zs =>
     if zs.length=P.cellsOf e then
      AH (.repl (P.bytesOf e) zs) [l] cs fun r cs=>k (.one (.own b)) (cs.newB b (.arr (P.cellsOf e) r))
     else none
   else none
  | _,_,_,_=>none
 | .call { callee:=.builtin .append,args:=args,argTypes:=ts } =>
  match cd cs args.toList,ts.toList with
  | some [.one x,.one y],[t,u] =>
   match fg P t,fg P u,name cs o.dst,cs.listOf y with
   | some e,some _,some b,some ya =>
    if qG P e then
     match x with
     | .nil0=>AH (.app (P.cellsOf e) (P.bytesOf e)) [.c .nil,ya] cs fun r cs=>k (.one (.own b)) (cs.newB b (.arr (P.cellsOf e) r))
     | .own b0 =>
      match av cs.heap b0 with
      | some (.arr es xa) =>
       if es=P.cellsOf e then
        AH (.app (P.cellsOf e) (P.bytesOf e)) [xa,ya] cs fun r cs=>k (.one (.own b0)) (cs.newB b0 (.arr (P.cellsOf e) r))
       else none
      | _=>none
     | _=>none
    else none
   | _,_,_,_=>none
  | _,_=>none
 | .call { callee:=.builtin .clear,.. }=>some (.stop ⟨[],[],[],0,0,0,0,0⟩)
 | _=>none
def Q4:Op→Bool
 | .alloc _ | .box _ _ | .buildSlice _ _ _ | .makeSlice _ _ _ | .binOp _ _ _ _ _ | .nilCheck _=>true
 | _=>false
def je(o:Oper)(cs:CS)(k:SV→CS→Option T):Option T :=
 match o.op with
 | .call { callee:=.value (.func f),args:=args,.. }=>(cd cs args.toList).bind fun vs=>nB P tab inl o.dst f vs cs k
 | .call { callee:=.value x,args:=args,.. } =>
  match az cs x with
  | some (.one (.fn f caps))=>(cd cs args.toList).bind fun vs=>nB P tab inl o.dst f (vs++caps.map SM) cs k
  | _=>none
 | op=>match opA P op cs with
  | some (.val sv)=>k sv cs
  | some (.em pop as f)=>AH pop as cs fun r cs=>k (f r) cs
  | none=>AM P o cs k
def gZ(cs:CS):Option Tmp→Bool
 | some d=>decide (d<cs.nt)
 | none=>true
def ci(ops:List Oper):List Oper→CS→(CS→Option T)→Option T
 | [],cs,k=>k cs
 | o::r,cs,k =>
  if !gZ cs o.dst then none else
  match o.guard with
  | none=>je P tab inl o cs fun v cs1=>ci ops r (cs1.put o.dst v) k
  | some (j,want) =>
   match (ops[j]?).bind (·.dst) with
   | none=>none
   | some d =>
    match az cs (.tmp d) with
    | some (.one (.at a)) =>
     let run:Bool→CS→Option T:=fun b cs =>
      if b=want then je P tab inl o cs fun v cs1=>ci ops r (cs1.put o.dst v) k
      else ci ops r (cs.put o.dst (.one .undef)) k
     match yf cs a with
     | some b=>run b cs
     | none =>
      (run true { cs with known:=(a,true)::cs.known }).bind fun t =>
       (run false { cs with known:=(a,false)::cs.known }).bind fun e=>some (.ite a t e)
    | some (.one .undef)=>ci ops r (cs.put o.dst (.one .undef)) k
    | _=>none
end
def Atom.lt(m:Nat):Atom→Bool
 | .v i=>decide (i<m)
 | .c _=>true
 | .cell l i _=>l.lt m&&i.lt m
def Cap.lt(m:Nat):Cap→Bool
 | .at a=>a.lt m
 | .ptr _ _=>true
 | .agg as=>as.all (Atom.lt m)
def C.lt(m:Nat):C→Bool
 | .at a=>a.lt m
 | .bor _ a=>a.lt m
 | .aptr _ i _=>i.lt m
 | .eptr _ l i _ _=>l.lt m&&i.lt m
 | .fn _ caps=>caps.all (Cap.lt m)
 | _=>true
inductive J where
 | keep
 | hole
 | ownh (b:Nat)
 | junk
 deriving DecidableEq,Repr
def U1(x y:C):J :=
 if x=y then .keep else
 match x,y with
 | .at _,.at _=>.hole
 | .nil0,.at _=>.hole
 | .at _,.nil0=>.hole
 | .nil0,.own b=>.ownh b
 | .own b,.nil0=>.ownh b
 | .own _,.own b'=>.ownh b'
 | .own _,.at _=>.hole
 | .at _,.own _=>.hole
 | .nil0,.bor _ _=>.hole
 | .at _,.bor _ _=>.hole
 | _,_=>.junk
def J.merge:J→J→J
 | .junk,_=>.junk
 | _,.junk=>.junk
 | .hole,_=>.hole
 | _,.hole=>.hole
 | .ownh b,_=>.ownh b
 | .keep,j=>j
def Q5(x:C):List (Option C)→J
 | []=>.keep
 | none::_=>.junk
 | some y::r=>(U1 x y).merge (Q5 x r)
def mkC(m d:Nat)(x:C):J→C×Nat
 | .keep=>if C.lt m x then (x,d) else match x with | .at _=>(.at (.v d),d+1) | _=>(.junk,d)
 | .hole=>(.at (.v d),d+1)
 | .ownh b=>(.own b,d)
 | .junk=>(.junk,d)
def RA(m d:Nat)(at_:Nat→List (Option C)):Nat→List C→List C×Nat
 | _,[]=>([],d)
 | i,x::r =>
  let y:=mkC m d x (Q5 x (at_ i))
  let ys:=RA m y.2 at_ (i+1) r
  (y.1::ys.1,ys.2)
def SV.cellAt(i:Nat):SV→Option C
 | .one c=>if i=0 then some c else none
 | .agg cs=>cs[i]?
 | .tup _=>none
def uy(m:Nat)(leafs:List CS):Nat→List (Nat×SV)→List (Nat×SV)×Nat
 | d,[]=>([],d)
 | d,(t,sv)::r =>
  match sv with
  | .tup _=>uy m leafs d r
  | .one c =>
   if leafs.any fun l=>(av l.slots t).isNone then uy m leafs d r else
   let y:=RA m d (fun i=>leafs.map fun l=>(av l.slots t).bind (SV.cellAt i)) 0 [c]
   let rest:=uy m leafs y.2 r
   ((t,.one (y.1.headD .junk))::rest.1,rest.2)
  | .agg cs =>
   if leafs.any fun l=>(av l.slots t).isNone then uy m leafs d r else
   let y:=RA m d (fun i=>leafs.map fun l=>(av l.slots t).bind (SV.cellAt i)) 0 cs
   let rest:=uy m leafs y.2 r
   ((t,.agg y.1)::rest.1,rest.2)
def AN(m:Nat)(leafs:List CS):Nat→List (Nat×Blk)→List (Nat×Blk)×Nat
 | d,[]=>([],d)
 | d,(b,blk)::r =>
  if leafs.any fun l=>(av l.heap b).isNone then AN m leafs d r else
  match blk with
  | .box cs =>
   let y:=RA m d (fun i=>leafs.map fun (l:CS)=>match (av l.heap b:Option Blk) with | some (.box cs')=>cs'[i]? | _=>none) 0 cs
   let rest:=AN m leafs y.2 r
   ((b,.box y.1)::rest.1,rest.2)
  | .arr es a =>
   if a.lt m&&leafs.all fun l=>decide (av l.heap b=some (.arr es a)) then
    let rest:=AN m leafs d r
    ((b,.arr es a)::rest.1,rest.2)
   else
    let rest:=AN m leafs (d+1) r
    ((b,.arr es (.v d))::rest.1,rest.2)
def C.ownName:C→Option Nat
 | .own b=>some b
 | _=>none
def SV.allCells:SV→List C
 | .one c=>[c]
 | .agg cs=>cs
 | .tup ps=>ps.flatMap (·.2)
def C.names:C→List Nat
 | .own b=>[b]
 | .bor b _=>[b]
 | .ptr b _=>[b]
 | .aptr b _ _=>[b]
 | .eptr (some b) _ _ _ _=>[b]
 | .fn _ caps=>caps.filterMap fun c=>match c with | .ptr b _=>some b | _=>none
 | _=>[]
def CS.ownNames(cs:CS):List Nat :=
 (cs.slots.flatMap fun p=>p.2.allCells.filterMap C.ownName)++(cs.heap.flatMap fun p=>match p.2 with | .box l=>l.filterMap C.ownName | _=>[])
def Gy(leafs:List CS):List Nat→CS→CS
 | [],cs=>cs
 | b::r,cs =>
  match av cs.heap b with
  | some _=>Gy leafs r cs
  | none =>
   match leafs.findSome? fun (l:CS)=>match (av l.heap b:Option Blk) with | some (.arr es _)=>some es | _=>none with
   | some es=>Gy leafs r { cs with heap:=(b,.arr es (.v cs.d))::cs.heap,d:=cs.d+1 }
   | none=>Gy leafs r cs
def C.keepNames(ok:Nat→Bool)(c:C):C:=if c.names.all ok then c else .junk
def Q6(m:Nat)(cs0:CS)(leafs:List CS):CS :=
 let s:=uy m leafs m cs0.slots
 let h:=AN m leafs s.2 cs0.heap
 let cs1:CS:={ cs0 with slots:=s.1,heap:=h.1,d:=h.2,known:=[] }
 let cs2:=Gy leafs cs1.ownNames cs1
 cs2.map (C.keepNames fun b=>(av cs2.heap b).isSome)
def nC:List C→List C→List Nat
 | .at _::ts,.own b::cs=>b::nC ts cs
 | .at _::ts,.bor b _::cs=>b::nC ts cs
 | _::ts,_::cs=>nC ts cs
 | _,_=>[]
def Oh:List C→List C→List Nat
 | .own b::ts,.nil0::r=>b::Oh ts r
 | _::ts,_::r=>Oh ts r
 | _,_=>[]
def qH:List Nat→CS→CS
 | [],cs=>cs
 | b::r,cs=>match av cs.heap b with
  | none=>qH r cs
  | some _=>qH r (cs.dropB b)
def oS(tm cs:CS):List (List C×List C) :=
 (tm.slots.filterMap fun p=>(av cs.slots p.1).map fun sv=>(p.2.cells,sv.cells)) ++
 (tm.heap.filterMap fun p=>match p.2,av cs.heap p.1 with | .box l,some (.box l')=>some (l,l') | _,_=>none)
def UN(cs0 t:CS):CS :=
 let fz:=(oS t cs0).flatMap fun p=>nC p.1 p.2
 ({ t with heap:=t.heap.filter fun p=> !fz.contains p.1 }).map (C.keepNames fun b=> !fz.contains b)
def lg:List Nat→CS→CS
 | [],cs=>cs
 | b::r,cs=>lg r (cs.freezeB b)
def Gz(b:Nat):List C→List C→List C
 | .own b'::ts,.nil0::r=>(if b'=b then .own b else .nil0)::Gz b ts r
 | _::ts,c::r=>c::Gz b ts r
 | _,r=>r
def SV.ownAs(b:Nat):SV→SV→SV
 | .one t,.one c=>.one ((Gz b [t] [c]).headD c)
 | .agg ts,.agg cs=>.agg (Gz b ts cs)
 | _,v=>v
def Oi(tm:CS)(b:Nat)(t:Nat)(sv:SV):SV :=
 match av tm.slots t with
 | some p=>p.ownAs b sv
 | none=>sv
def GA(tm:CS)(b:Nat)(t:Nat)(x:Blk):Blk :=
 match av tm.heap t,x with
 | some (.box ts),.box l=>.box (Gz b ts l)
 | _,x=>x
def uM(tm:CS)(b es:Nat)(cs:CS):CS :=
  { cs with slots:=cs.slots.map fun p=>(p.1,Oi tm b p.1 p.2),heap:=(b,.arr es (.c .nil))::cs.heap.map fun p=>(p.1,GA tm b p.1 p.2) }
def sN(tm:CS):List Nat→CS→CS
 | [],cs=>cs
 | b::r,cs =>
  match av cs.heap b,av tm.heap b with
  | none,some (.arr es _)=>if 0<es then sN tm r (uM tm b es cs) else sN tm r cs
  | _,_=>sN tm r cs
def swN(x y n:Nat):Nat:=if n=x then y else if n=y then x else n
def Cap.sw(x y:Nat):Cap→Cap
 | .ptr b o=>.ptr (swN x y b) o
 | c=>c
def C.sw(x y:Nat):C→C
 | .own b=>.own (swN x y b)
 | .bor b a=>.bor (swN x y b) a
 | .ptr b o=>.ptr (swN x y b) o
 | .aptr b i o=>.aptr (swN x y b) i o
 | .eptr bo l i o m=>.eptr (bo.map (swN x y)) l i o m
 | .fn K caps=>.fn K (caps.map (Cap.sw x y))
 | c=>c
def CS.sw(x y:Nat)(cs:CS):CS :=
  { cs with slots:=cs.slots.map fun p=>(p.1,p.2.map (C.sw x y)),heap:=cs.heap.map fun p=>(swN x y p.1,p.2.map (C.sw x y)) }
def Q7:List C→List C→List (Nat×Nat)
 | .own b::ts,.own b'::cs=>(if b=b' then [] else [(b,b')])++Q7 ts cs
 | _::ts,_::cs=>Q7 ts cs
 | _,_=>[]
def FV:List (Nat×Nat)→CS→CS
 | [],cs=>cs
 | p::r,cs=>FV r (cs.sw p.1 p.2)
def apart(acc:List Nat):List (Nat×Nat)→List (Nat×Nat)
 | []=>[]
 | p::r=>if acc.contains p.1||acc.contains p.2 then apart acc r else p::apart (p.1::p.2::acc) r
def fit(tm cs:CS):CS :=
 let cs0:=lg ((oS tm cs).flatMap fun p=>nC p.1 p.2) cs
 let cs1:=FV (apart [] ((oS tm cs0).flatMap fun p=>Q7 p.1 p.2)) cs0
 let ns:=(oS tm cs1).flatMap fun p=>Oh p.1 p.2
 sN tm ns (qH ns cs1)
def yg(m:Nat):List C→List C→List (Nat×Atom)
 | .at (.v i)::ts,.at a::cs=>if m≤i then (i,a)::yg m ts cs else yg m ts cs
 | .at (.v i)::ts,.nil0::cs=>if m≤i then (i,.c .nil)::yg m ts cs else yg m ts cs
 | _::ts,_::cs=>yg m ts cs
 | _,_=>[]
def SN(m:Nat)(tm cs:CS):List (Nat×Atom) :=
 ((oS tm cs).flatMap fun p=>yg m p.1 p.2) ++
 (tm.heap.filterMap fun p=>match p.2,av cs.heap p.1 with | .arr _ (.v i),some (.arr _ a)=>if m≤i then some (i,a) else none | _,_=>none)
def sO(m:Nat)(as:List Atom)(t a:Atom):Bool :=
 (decide (t=a)&&t.lt m)||(match t with | .v i=>decide (m≤i)&&decide (as[i-m]? =some a) | _=>false)
def Oj(m:Nat)(as:List Atom)(t c:C):Bool :=
  decide (t=.junk)||(decide (t=c)&&t.lt m) ||
  (match t,c with
   | .at t,.at a=>sO m as t a
   | .at t,.nil0=>sO m as t (.c .nil)
   | _,_=>false)
def vG(m:Nat)(as:List Atom):List C→List C→Bool
 | [],[]=>true
 | t::ts,c::cs=>Oj m as t c&&vG m as ts cs
 | _,_=>false
def GB(m:Nat)(as:List Atom):SV→SV→Bool
 | .one t,.one c=>Oj m as t c
 | .agg ts,.agg cs=>vG m as ts cs
 | _,_=>false
def mW(m:Nat)(as:List Atom):Blk→Blk→Bool
 | .box ts,.box cs=>vG m as ts cs
 | .arr es t,.arr es' a=>decide (es=es')&&sO m as t a
 | _,_=>false
def Ok(tm:CS):Bool :=
 (tm.slots.all fun p=>p.2.allCells.all fun c=>c.names.all fun b=>(av tm.heap b).isSome) &&
 (tm.heap.all fun p=>match p.2 with | .box l=>l.all fun c=>c.names.all fun b=>(av tm.heap b).isSome | _=>true)
def U2(m:Nat)(as:List Atom)(tm cs:CS):Bool :=
 (tm.slots.all fun p=>match av cs.slots p.1 with | some sv=>GB m as p.2 sv | none=>false) &&
 (tm.heap.all fun p=>match av cs.heap p.1 with | some blk=>mW m as p.2 blk | none=>false) &&
 decide (tm.d=m+as.length)&&decide (tm.fb=cs.fb)&&decide (tm.nt=cs.nt)&&decide (tm.known=[]) &&
 Ok tm&&(tm.slots.all fun p=>decide (p.1<tm.nf))&&decide (tm.fb+tm.nt≤tm.nf)
def uz(m:Nat)(tm cs:CS):Option (List Atom) :=
 let cs:=fit tm cs
 let hs:=SN m tm cs
 let as:=(List.range (tm.d-m)).map fun j=>(av hs (m+j)).getD (.c .nil)
 if U2 m as tm cs then some as else none
def sP:T→List CS
 | .ret _=>[]
 | .op _ _ k=>sP k
 | .ite _ t e=>sP t++sP e
 | .call _ _ _ k=>sP k
 | .loop _ b=>sP b
 | .next _ _=>[]
 | .sub _ _ k=>sP k
 | .nilq _ _ k=>sP k
 | .alt t e=>sP t++sP e
 | .stop cs=>if cs.nf=0 then [] else [cs]
def T.size:T→Nat
 | .ret _=>1
 | .op _ _ k=>k.size+1
 | .ite _ t e=>t.size+e.size+1
 | .call _ _ _ k=>k.size+1
 | .loop _ b=>b.size+1
 | .next _ _=>1
 | .sub t _ k=>t.size+k.size+1
 | .nilq _ _ k=>k.size+1
 | .alt t e=>t.size+e.size+1
 | .stop _=>1
abbrev aa:=List (Nat×Option CS)
def ML(o:Oper):Bool :=
 match o.op with
 | .load .. =>true
 | _=>false
def GC:List Edge→Nat
 | []=>0
 | e::r=>if Region.binds .any e then Nat.lor (2 ^ e.on) (GC r) else GC r
def GD(o:Oper):Nat:=GC o.after.toList
def wA(a m:Nat):Bool:=Nat.beq (Nat.land a m) a
def oA(ops:Array Oper):List Nat:=ops.toList.map GD
def mu(m:Nat):List Nat→Nat→List Nat
 | [],_=>[]
 | d::r,j=>if !m.testBit j&&wA d m then j::mu m r (j+1) else mu m r (j+1)
def Ol(ops:Array Oper)(oi:Oper)(i m:Nat):List Oper→Nat→Bool
 | [],_=>true
 | o::r,j=>(Nat.beq j i||m.testBit j||(GD o).testBit i||oi.apart ops o)&&Ol ops oi i m r (j+1)
def Om(ops:Array Oper)(m i:Nat):Bool :=
 match ops[i]? with
 | none=>false
 | some oi=>Ol ops oi i m ops.toList 0
def MM(i:Nat):List Nat→Nat→Nat→Nat
 | [],_,C=>C
 | d::r,j,C=>MM i r (j+1) (if !Nat.beq j i&&wA d C then Nat.lor C (2 ^ j) else C)
def SO(ds:List Nat)(i:Nat):Nat→Nat→Nat
 | 0,C=>C
 | n+1,C=>if Nat.beq (MM i ds 0 C) C then C else SO ds i n (MM i ds 0 C)
def uU(ops:Array Oper)(i m:Nat):Nat:=SO (oA ops) i ops.size m
def uA(i C:Nat):List Nat→Nat→Bool
 | [],_=>true
 | d::r,j=>(Nat.beq j i|| !wA d C||C.testBit j)&&uA i C r (j+1)
def MN(ops:Array Oper)(m i:Nat):Bool :=
 Om ops m i&&uA i (uU ops i m) (oA ops) 0&&wA m (uU ops i m)
def RB(ops:Array Oper):Nat→Nat→Nat→Bool
 | 0,_,m=>(mu m (oA ops) 0).isEmpty
 | f+1,k,m=>(mu m (oA ops) 0).contains k&&Om ops m k&&decide (k<ops.size)&&RB ops f (k+1) (Nat.lor m (2 ^ k))
def SU(ops:Array Oper):Bool:=Region.noSelect ops&&RB ops ops.size 0 0
inductive Sched where
 | done
 | take (i:Nat) (r:Sched)
 | alt (i:Nat) (r more:Sched)
 | stop
def Sched.ids:Sched→List Nat
 | .alt i _ more=>i::more.ids
 | _=>[]
def Sched.deep:Sched→Nat
 | .take _ r=>r.deep+1
 | .alt _ r more=>max (r.deep+1) more.deep
 | _=>0
def Sched.isStop:Sched→Bool
 | .stop=>true
 | _=>false
def Sched.forks:Sched→Bool
 | .take _ r=>r.forks
 | .alt _ r more=>r.forks|| !more.isStop
 | _=>false
def jC(ops:Array Oper)(ok:Nat→Bool):Bool→Sched→Nat→Bool
 | ch,.stop,_=>ch
 | ch,.done,m=> !ch&&decide (mu m (oA ops) 0=[])
 | ch,.take i r,m=> !ch&&decide (i<ops.size)&&ok i&&(mu m (oA ops) 0).contains i&&MN ops m i&&jC ops ok false r (Nat.lor m (2 ^ i))
 | ch,.alt i r more,m=>decide (i<ops.size)&&(ch||(decide (mu m (oA ops) 0≠[])&&(mu m (oA ops) 0).all fun j=>(i::more.ids).contains j)) &&
   jC ops ok false r (Nat.lor m (2 ^ i))&&jC ops ok true more m
def GE(ops:Array Oper)(ok wr:Nat→Bool)(far:Nat→Nat→Bool):Nat→Nat→Sched
 | 0,_=>.done
 | n+1,m =>
  match mu m (oA ops) 0 with
  | []=>.done
  | i::r=>match (i::r).find? fun i=>ok i&&MN ops m i&&(List.range ops.size).all fun j=> !(uU ops i m).testBit j||m.testBit j|| !wr j||far i j with
   | some j=>.take j (GE ops ok wr far n (Nat.lor m (2 ^ j)))
   | none=>(i::r).foldr (fun j more=>.alt j (GE ops ok wr far n (Nat.lor m (2 ^ j))) more) .stop
def AO(cs:CS)(x:Operand):Option (Option Nat) :=
 match az cs x with
 | some (.one (.ptr b _))=>some (some b)
 | some (.one (.aptr b _ _))=>some (some b)
 | some (.one (.eptr bo _ _ off m))=>if off<m then some bo else none
 | _=>none
def MO(cs:CS)(x:Operand):Option Nat :=
 match az cs x with
 | some (.one (.ptr b _))=>some b
 | some (.one (.aptr b _ _))=>some b
 | _=>none
def On(cs:CS)(t:Tmp)(y:Operand):Bool :=
 match AO cs (.tmp t),MO cs y with
 | some r,some b=>decide (r≠some b)
 | _,_=>false
def nq(ops:List Oper)(cs:CS):Nat→Operand→Option (Option Nat)
 | 0,_=>none
 | n+1,x =>
  match x with
  | .tmp t=>match ops.find? fun o=>o.dst == some t with
   | some o=>match o.op with
    | .fieldAddr _ x _=>nq ops cs n x
    | .indexAddr _ x _=>match az cs x with
     | some (.one (.own b))=>some (some b)
     | some (.one (.bor b _))=>some (some b)
     | some (.one (.at _))=>some none
     | _=>nq ops cs n x
    | .nilCheck x=>nq ops cs n x
    | .move x=>nq ops cs n x
    | _=>none
   | none=>AO cs x
  | _=>AO cs x
def Oo(o:Oper):Option Tmp :=
 match o.op with
 | .load _ (.tmp t)=>some t
 | _=>none
def UO(ops:Array Oper)(cs:CS)(i j:Nat):Bool :=
 match (ops.getD i default).op,(ops.getD j default).op with
 | .load _ x,.store _ y _=>match nq ops.toList cs 8 x,nq ops.toList cs 8 y with
  | some r,some (some b)=>decide (r≠some b)
  | _,_=>false
 | .load _ _,_=>false
 | _,_=>true
section
variable (P:Program)(tab:List Sig)(hs:aa)(inl:Code→CS→lf→Option T)
def yX(o:Oper):Bool :=
 match o.op with
 | .call c=>match c.callee with
  | .builtin .len | .builtin .min | .builtin .max=>true
  | .value (.func f)=>(AL tab f).isNone&&(sM tab f).isSome
  | _=>false
 | .store .. | .panic .. =>false
 | _=>true
def AP(o:Oper):Bool :=
 match o.op with
 | .call c=>match c.callee with
  | .builtin .len | .builtin .min | .builtin .max=>true
  | _=>false
 | .store .. | .alloc .. | .box .. | .buildSlice .. | .makeSlice .. | .panic .. =>false
 | .binOp _ t _ _ _=>(fg P t).isNone
 | _=>true
def Az(o:Oper):Bool :=
 match o.op with
 | .call c=>match c.callee with
  | .builtin .len | .builtin .min | .builtin .max=>true
  | .value (.func f)=>(AL tab f).isNone&&(sM tab f).isSome&&((P.funcs[f]?).map fun fn=>fn.resultTypes.toList.all (fe P)).getD false
  | _=>false
 | .store .. | .alloc .. | .box .. | .buildSlice .. | .makeSlice .. | .panic .. =>false
 | .binOp _ t _ _ _=>(fg P t).isNone
 | _=>true
def round(body:CS→lf→Option T)(tm:CS):List CS :=
 match body { tm with nl:=tm.nl+1 } fun e cs=>match e with | .normal=>some (.stop cs) | _=>some (.ret []) with
 | some t=>sP t
 | none=>[]
def K4(body:CS→lf→Option T)(cs0:CS):Nat→List CS→CS→CS
 | 0,_,tm=>tm
 | n+1,seen,tm =>
  let l:=seen++round body tm
  let tm':=UN cs0 (Q6 cs0.d cs0 l)
  if tm'=tm then tm else K4 body cs0 n l tm'
def qI:Code→Nat
 | .region id _ _=>2*id
 | .seq a _=>qI a
 | .cond _ a _=>qI a
 | .block id _=>2*id+1
 | .loop b=>qI b
 | .exit id=>2*id+1
 | _=>0
def yh:aa→Nat→Option (Option CS)
 | [],_=>none
 | (k,v)::r,key=>if k=key then some v else yh r key
def Oq(tag id:Nat)(cs:CS):Nat:=((((cs.fb*4+tag)*65536+id)*4096+cs.d)*64+cs.nl)*64+cs.known.length
def UP(id nt:Nat)(ops:Array Oper):Nat:=(((ops.foldl (fun n o=>n*31+o.dst.getD 0*7+o.type) (nt*1009)) % 1048576*4+3)*65536+id)*16777216
def K5(cs0 e:CS):CS :=
  { cs0 with
    slots:=(cs0.slots.filterMap fun p=>match av e.slots p.1 with | none=>some p | some (.tup _)=>none | some v=>some (p.1,v))++e.slots.filter fun p=>(av cs0.slots p.1).isNone
    heap:=(e.heap.filter fun p=>(av cs0.heap p.1).isNone)++cs0.heap.filterMap fun p=>match av e.heap p.1 with | none=>some p | some (.arr 0 _)=>none | some b=>some (p.1,b)
    known:=[],d:=e.d,nf:=e.nf }
def wB(tm:CS)(body:CS→lf→Option T)(cs0:CS)(k:lf):Option T :=
 if cs0.nf≤tm.nf then (uz cs0.d tm cs0).bind fun as0 =>
  (body { tm with nl:=cs0.nl+1 } fun e cs=>match e with
   | .normal=>(uz cs0.d tm cs).map fun as=>.next cs0.nl as
   | e=>k e cs).map fun t=>.loop as0 t
 else none
def AQ(hs:aa)(id:Nat)(body:CS→lf→Option T)(cs0:CS)(k:lf):Option T :=
 match yh hs (Oq 0 id cs0) with
 | some (some e)=>wB (K5 cs0 e) body cs0 k
 | _=>wB (K4 body cs0 4 [] { cs0 with known:=[] }) body cs0 k
def qk:Code→Bool
 | .skip=>true
 | .region _ _ _=>true
 | .seq a b=>qk a&&qk b
 | .cond _ a b=>qk a&&qk b
 | _=>false
def RC(ops:List Oper):List Nat :=
 (ops.filterMap fun o=>match o.op with | .assign _=>o.dst | _=>none)++((ops.getLast?.bind (·.dst)).toList)
def wD(dead:List Nat)(cs:CS):CS:={ cs with slots:=cs.slots.filter fun p=> !(dead.contains p.1) }
def wE(tm:CS)(piece:CS→(CS→Option T)→Option T)(dead:List Nat)(cs0:CS)(kt:T):Option T :=
 if cs0.nf≤tm.nf∧tm.nl=cs0.nl then (piece { cs0 with nl:=0 } fun cs=>(uz cs0.d tm (wD dead cs)).map .ret).map fun t=>.sub t (tm.d-cs0.d) kt
 else none
def Ot(piece:CS→(CS→Option T)→Option T)(dead:List Nat)(cs0:CS):Option CS :=
 match piece { cs0 with nl:=0 } fun cs=>some (.stop (wD dead cs)) with
 | none=>none
 | some t0 =>
  match sP t0 with
  | []=>none
  | l::ls=>some (Q6 cs0.d { l with nl:=cs0.nl } (l::ls))
def uB(hs:aa)(id:Nat)(piece:CS→(CS→Option T)→Option T)(dead:List Nat)(cs0:CS)(k:CS→Option T):Option T :=
 match yh hs (Oq 1 id cs0) with
 | some none=>piece cs0 k
 | some (some e)=>(k (K5 cs0 e)).bind fun kt=>wE (K5 cs0 e) piece dead cs0 kt
 | none=>(Ot piece dead cs0).bind fun tm=>(k tm).bind fun kt=>if kt.size≤10 then piece cs0 k else wE tm piece dead cs0 kt
def wF(tm:CS)(p:Nat)(f:CS→lf→Option T)(cs0:CS)(k:lf):Option T :=
 if cs0.nf≤tm.nf∧tm.nl=cs0.nl∧cs0.d≤tm.d then
  (f { cs0 with nl:=0 } fun e cs=>match e with
   | .normal=>(uz cs0.d tm cs).map fun as=>.ret (as++.c (.bool true)::List.replicate p (.c .nil))
   | e=>match k e { cs with nl:=cs0.nl } with
    | some (.ret as)=>if as.length=p then some (.ret (List.replicate (tm.d-cs0.d) (.c .nil)++.c (.bool false)::as)) else none
    | _=>none).bind fun t =>
   (k .normal { tm with d:=tm.d+(p+1) }).map fun kt =>
    .sub t (tm.d-cs0.d+(p+1)) (.ite (.v tm.d) kt (.ret ((List.range p).map fun j=>.v (tm.d+(j+1)))))
 else none
def GF(pt:List (Tmp×Nat))(cs:CS)(i:Nat)(o:Oper):Bool :=
 pt.all fun p=>decide (o.dst≠some p.1)&&(!(p.2.testBit i)||yX tab o||(match o.op with | .store _ y _=>On cs p.1 y | _=>false))
def GG(ops:Array Oper)(m:Nat)(pt:List (Tmp×Nat))(i:Nat):List (Tmp×Nat) :=
 match Oo (ops.getD i default) with
 | some t=>(t,uU ops i m)::pt
 | none=>pt
def GH(ops:Array Oper)(m:Nat)(pt:List (Tmp×Nat))(i:Nat):Bool :=
 (!ML (ops.getD i default)||(Oo (ops.getD i default)).isSome)&&(GG ops m pt i).all fun p=>decide ((ops.getD i default).dst≠some p.1)
def AR(ops:Array Oper):Sched→Nat→List (Tmp×Nat)→CS→(CS→Option T)→Option T
 | .done,_,_,cs,k=>k cs
 | .take i r,m,pt,cs,k =>
  if GH ops m pt i then
   ci P tab inl ops.toList [ops.getD i default] cs fun cs=>AR ops r (Nat.lor m (2 ^ i)) (GG ops m pt i) cs k
  else none
 | .alt i r more,m,pt,cs,k =>
  if GF tab pt cs i (ops.getD i default) then
   (ci P tab inl ops.toList [ops.getD i default] cs fun cs=>AR ops r (Nat.lor m (2 ^ i)) pt cs k).bind fun t =>
    if more.isStop then some t else (AR ops more m pt cs k).map fun u=>if t=u then t else .alt t u
  else none
 | .stop,_,_,_,_=>none
inductive Ord where
 | lst (l:List Oper)
 | tree (s:Sched)
def Ord.forks:Ord→Bool
 | .lst _=>false
 | .tree s=>s.forks
def K6(ops:Array Oper):Ord→CS→(CS→Option T)→Option T
 | .lst l=>ci P tab inl ops.toList l
 | .tree s=>AR P tab inl ops s 0 []
def GI(ops:Array Oper)(draw:Bool)(cs:CS):Option Ord :=
 if !draw||(ops.toList.all (Az P tab)&&SU ops) then some (.lst ops.toList) else
 let ok:=fun i=>AP P (ops.getD i default)
 let order:=GE ops ok (fun i=> !yX tab (ops.getD i default)) (UO ops cs) ops.size 0
 if Region.noSelect ops&&jC ops ok false order 0&&decide (order.deep≤ops.size) then some (.tree order) else none
def Q8(ops:Array Oper)(fb:Nat):List Nat :=
 if ops.toList.any (fun o=>o.guard.isSome) then (((ops.toList.filterMap (·.dst)).filter fun d=> !((RC ops.toList).contains d)).map (fb+ ·)) else []
def comp:Code→CS→lf→Option T
 | .skip,cs,k=>k .normal cs
 | .region id ops draw,cs,k =>
  match GI P tab ops draw cs with
  | none=>none
  | some ord =>
   if ops.toList.any (fun o=>o.guard.isSome)||ord.forks||(yh hs (Oq 1 (2*id) cs)).isSome then
    uB hs (2*id) (K6 P tab inl ops ord) (Q8 ops cs.fb) cs (k .normal)
   else match yh hs (UP id cs.nt ops) with
    | some (some h)=>K6 P tab inl ops ord cs fun cs1=>k .normal (wD (h.slots.map fun p=>cs.fb+p.1) cs1)
    | _=>K6 P tab inl ops ord cs (k .normal)
 | .seq a b,cs,k=>comp a cs fun e cs1=>match e with
  | .normal=>comp b cs1 k
  | e=>k e cs1
 | .cond c x y,cs,k =>
  match az cs c with
  | some (.one (.at a)) =>
   match yf cs a with
   | some true=>comp x cs k
   | some false=>comp y cs k
   | none =>
    let piece:CS→lf→Option T:=fun cs k=>(comp x { cs with known:=(a,true)::cs.known } k).bind fun t=>(comp y { cs with known:=(a,false)::cs.known } k).bind fun e=>some (.ite a t e)
    if qk x&&qk y then uB hs (qI x) (fun cs k=>piece cs fun e cs=>match e with | .normal=>k cs | _=>none) [] cs (k .normal) else
     match yh hs (Oq 2 (qI x) cs) with
     | some (some e)=>wF (K5 cs e) e.nt piece cs k
     | _=>piece cs k
  | _=>none
 | .block id b,cs,k=>comp b cs fun e cs1=>if e=.exit id then k .normal cs1 else k e cs1
 | .loop b,cs,k=>AQ hs (qI b) (comp b) cs k
 | .exit id,cs,k=>k (.exit id) cs
 | .ret,cs,k=>k .ret cs
 | _,_,_=>none
end
def K7(P:Program)(tab:List Sig)(hs:aa):Nat→Code→CS→lf→Option T
 | 0=>fun _ _ _=>none
 | n+1=>comp P tab hs (K7 P tab hs n)
def qJ(P:Program):Nat→Nat→List TypeId→List (Nat×SV)×Nat
 | _,d,[]=>([],d)
 | i,d,t::r =>
  let n:=if aD P t then P.cellsOf t else 1
  let rest:=qJ P (i+1) (d+n) r
  ((i,Gx (aD P t,(List.range n).map fun j=>.at (.v (d+j))))::rest.1,rest.2)
def Ou(es:Nat)(own:Bool)(c:C)(cs:CS):Option Atom :=
 match own,c with
 | true,.own b=>match av cs.heap b with
  | some (.arr es' a)=>if es'=es then some a else none
  | _=>none
 | true,.nil0=>some (.c .nil)
 | false,.at a=>some a
 | false,.nil0=>some (.c .nil)
 | _,_=>none
def yi(es:Nat→Nat)(own:List Nat):Nat→List C→CS→Option (List Atom)
 | _,[],_=>some []
 | j,c::r,cs=>(Ou (es j) (decide (j∈own)) c cs).bind fun a=>(yi es own (j+1) r cs).map (a:: ·)
def notOwn(own:List Nat):Nat→List C→List C
 | _,[]=>[]
 | j,c::r=>if j∈own then notOwn own (j+1) r else c::notOwn own (j+1) r
def so(own:List Nat):Nat→List C→List Nat
 | _,[]=>[]
 | j,.own b::r=>if j∈own then b::so own (j+1) r else so own (j+1) r
 | j,_::r=>so own (j+1) r
def wG(P:Program)(fn:Func)(own:List Nat)(l:List C)(cs:CS):Option (List Atom) :=
 match own with
 | []=>(cs.plains l).map (·.1)
 | j::js=>(cs.plains (notOwn (j::js) 0 l)).bind fun x=>if (so (j::js) 0 (l.map x.2.2)).Nodup then yi (uT P fn) (j::js) 0 (l.map x.2.2) x.2.1 else none
def nD(P:Program):List TypeId→List (Bool×List C)→Bool
 | [],[]=>true
 | t::ts,p::ps=>decide (p.1=aD P t)&&decide (p.2.length=if aD P t then P.cellsOf t else 1)&&nD P ts ps
 | _,_=>false
def GJ(P:Program)(tab:List Sig)(hs:aa)(fuel:Nat)(s:Sig):Option T :=
 match P.funcs[s.K]? with
 | none=>none
 | some fn=>match fn.body with
  | none=>none
  | some body =>
   let ps:=qJ P 0 0 fn.params.toList
   let cs0:CS:={ slots:=ps.1,heap:=[],known:=[],d:=ps.2,nl:=0,fb:=0,nt:=fn.ntmps,nf:=fn.ntmps+1 }
   if fn.params.size≤fn.ntmps then
    K7 P tab hs fuel body cs0 fun e cs =>
     match e with
     | .exit _=>none
     | _=>(fh P cs fn.results.toList).bind fun ps=>if nD P fn.resultTypes.toList ps then (wG P fn s.own (ps.flatMap (·.2)) cs).map .ret else none
   else none
end Go.Xt
