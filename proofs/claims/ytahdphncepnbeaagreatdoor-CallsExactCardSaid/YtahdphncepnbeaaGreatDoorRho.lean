/- Steps towards the statements of this seat; the conditions stand in each theorem. -/
import Derived.Test.YtahdphncepnbeaaGreatDoorSpecs
set_option maxRecDepth 100000
set_option linter.unusedVariables false
set_option linter.unusedSimpArgs false
namespace Go.Xt
set_option linter.defProp false
def nv:Int→Prop×List PV×List PV:=mkF fun n=>(True,[bb (isN n)])
def kf:Int→Prop×List PV×List PV:=mkF fun n=>(True,[I (if isN n=true then nn n else 0),I (if isN n=true then 0 else 1)])
def iO:Int→Prop×List PV×List PV:=mkF fun t=>(True,[I (if isT t=true then tt t else 0),I (if isT t=true then 0 else 1)])
def nw:Int×Int→Prop×List PV×List PV:=mkF fun (k,n)=>(0≤k∧k<4611686018427387904∧0≤n∧n<4611686018427387904,[I (far k n)])
def kL:Int→Prop×List PV×List PV:=mkF fun n=>(isN n=true,[I (nn n)])
def jv:Int→Prop×List PV×List PV:=mkF fun t=>(isT t=true,[I (tt t)])
def im:Int×Int→Prop×List PV×List PV:=mkF fun (k,n)=>(0≤k∧k<4611686018427387904∧0≤n∧n<4611686018427387904,[I (far k n)])
def lr:Int×Int→Prop×List PV×List PV:=mkF fun (t,n)=>(True,[I (if (isT t&&isN n)=true then gap t n else 0),I (if (isT t&&isN n)=true then 0 else 1)])
def gG:Int×Int×Int→Prop×List PV×List PV:=mkF fun (t,a,b)=>(True,[bb (fm t a b)])
def dS:Int→Prop×List PV×List PV:=mkF fun t=>(True,[bb (isT t)])
def fq:Int→Prop×List PV×List PV:=mkF fun n=>(True,[bb (isN n)])
def mj:Int×Int→Prop×List PV×List PV:=mkF fun (t,n)=>(isT t=true∧isN n=true,[I (gap t n)])
def ft:Int×Int×Int→Prop×List PV×List PV:=mkF fun (t,a,b)=>(True,[bb (fm t a b)])
def jP:(List Int)→Prop×List PV×List PV:=mkF fun l=>(True,[bb (l.all isN)])
def fL:Int×Int×(List Int)→Prop×List PV×List PV:=mkF fun (t,self,l)=>(True,[bb (oD t self l)])
def fM:Int×Int×(List Int)×Int→Prop×List PV×List PV:=mkF fun (t,self,l,depth)=>(True,[I (chk t self l depth)])
def dq:(List Int)→Prop×List PV×List PV:=mkF fun l=>(l.length≤1000000,[L l])
def fN:(List Int)×(List Int)→Prop×List PV×List PV:=mkF fun (a,b)=>(True,[bb (decide (a=b))])
def fO:Int×Int×(List Int)×Int→Prop×List PV×List PV:=mkF fun (t,self,l,depth)=>(isT t=true∧isN self=true,[I (Pq t self l depth)])
def bg:(List Int)×Int→Prop×List PV×List PV:=mkF fun (l,n)=>(True,[bb (l.contains n)])
noncomputable def gW:List PV→Option (List PV):=qq (fun (l:(List Int))=>l.length<4611686018427387904) (fun (l:(List Int))=>[L l]) (fun (l:(List Int))=>[L (mw l)])
noncomputable def et:List PV→Option (List PV):=qq (fun (l:(List Int))=>l.length<4611686018427387904) (fun (l:(List Int))=>[L l]) (fun (l:(List Int))=>[L (bB l)])
def qv:Int→Prop×List PV×List PV:=mkF fun k=>(True,[bb (isK k)])
def lu:Int×Int→Prop×List PV×List PV:=mkF fun (k,bits)=>(True,[I (if (isK k&&decide (0≤bits)&&decide (bits≤61))=true then far (2 ^ bits.toNat) k else 0),I (if (isK k&&decide (0≤bits)&&decide (bits≤61))=true then 0 else 1)])
def fP:Int×(List Int)→Prop×List PV×List PV:=mkF fun (t,l)=>(True,[I (zm t l).1,I (zm t l).2])
def eu:(List Int)×Int→Prop×List PV×List PV:=mkF fun (live,self)=>(True,[I (zT live self)])
def ew:(List Int)×Int→Prop×List PV×List PV:=mkF fun (live,k)=>(live.all isN=true∧0≤k∧k<4611686018427387904,[I (oW live k)])
def ey:(List Int)×Int→Prop×List PV×List PV:=mkF fun (live,self)=>(live.all isN=true∧isN self=true,[I (jL live self)])
def db:(List Int)×Int→Prop×List PV×List PV:=mkF fun (live,self)=>(live.all isN=true∧isN self=true∧live≠[],[L (hU live self)])
def fQ:Int×(List Int)×Int→Prop×List PV×List PV:=mkF fun (t,live,self)=>(live.all isN=true∧isN self=true∧live≠[],[I (ij t live self)])
def ez:Int×(List Int)×Int→Prop×List PV×List PV:=mkF fun (t,live,self)=>(True,[I (tv t live self)])
def fR:Int×(List Int)×Int→Prop×List PV×List PV:=mkF fun (t,live,self)=>(True,[I (if tv t live self=0 then max (ij t live self) 0 else 0),bb (decide (tv t live self=0)&&decide (0≤ij t live self)),I (tv t live self)])
def fu:Int×Int→Prop×List PV×List PV:=mkF fun (n,self)=>(isN n=true∧isN self=true,[I (far (nn n) (nn self))])
def eA:(List Int)×Int→Prop×List PV×List PV:=mkF fun (live,self)=>(live.all isN=true∧isN self=true,[I (jL live self)])
def dc:(List Int)×Int→Prop×List PV×List PV:=mkF fun (live,self)=>(live.all isN=true∧isN self=true∧live≠[],[L (hU live self)])
def eB:Int×(List Int)→Prop×List PV×List PV:=mkF fun (t,l)=>(isT t=true∧l.all isN=true,[I (vR t l)])
def fS:Int×(List Int)×Int→Prop×List PV×List PV:=mkF fun (t,live,self)=>(isT t=true∧zT live self=0,[I (ij t live self)])
noncomputable def nN:List PV→Option (List PV):=qq (fun (_:ByteArray×Int×Int×Int×Int)=>True) (fun (((s,n,lo,hi,why)):ByteArray×Int×Int×Int×Int)=>[.str s,I n,I lo,I hi,I why]) (fun (((s,n,lo,hi,why)):ByteArray×Int×Int×Int×Int)=>[E ⟨false,if n<lo∨hi<n then [why] else []⟩])
noncomputable def oZ:List PV→Option (List PV):=qq (fun (xs:(List Er))=>xs≠[]∧xs.length≤1000∧ ∀x∈xs,x.j=false) (fun (xs:(List Er))=>[L xs]) (fun (xs:(List Er))=>[E ⟨true,xs.flatMap (·.l)⟩])
noncomputable def nO:List PV→Option (List PV):=qq (fun (x:Er)=>x.l.length≤1000) (fun (x:Er)=>[E x]) (fun (x:Er)=>[I (iN x.l)])
def dT:Config→Prop×List PV×List PV:=mkF fun c=>(True,[E ⟨true,oF c⟩])
def dU:Config→Prop×List PV×List PV:=mkF fun c=>(True,[I (if bC c=true then 0 else 13)])
def lv:Int×Int×Int→Prop×List PV×List PV:=mkF fun (n,lo,hi)=>(True,[bb (decide (lo≤n)&&decide (n≤hi))])
def fv:Config→Prop×List PV×List PV:=mkF fun c=>(True,[bb (bC c)])
def gH:Int→Prop×List PV×List PV:=mkF fun e=>(True,[I (if ep e=true then 0 else 1)])
def kg:Int→Prop×List PV×List PV:=mkF fun e=>(True,[I (if ep e=true then e % 16 else 0),I (if ep e=true then 0 else 1)])
def qw:Int×Int×Int→Prop×List PV×List PV:=mkF fun (n,lo,hi)=>(True,[bb (rng n lo hi)])
def gI:Int→Prop×List PV×List PV:=mkF fun n=>(True,[bb (cnt n)])
def kh:Int→Prop×List PV×List PV:=mkF fun n=>(True,[bb (val n)])
def ny:Int×Int×Int→Prop×List PV×List PV:=mkF fun (n,lo,hi)=>(True,[bb (rng n lo hi)])
def lw:Int×Int×Int→Prop×List PV×List PV:=mkF fun (n,lo,hi)=>(True,[bb (rng n lo hi)])
def lx:Int×Int×Int→Prop×List PV×List PV:=mkF fun (n,lo,hi)=>(True,[bb (rng n lo hi)])
def gJ:Int→Prop×List PV×List PV:=mkF fun n=>(True,[bb (val n)])
def gK:Int→Prop×List PV×List PV:=mkF fun n=>(True,[bb (cnt n)])
def gL:Int→Prop×List PV×List PV:=mkF fun e=>(True,[bb (ep e)])
def iP:Peer→Prop×List PV×List PV:=mkF fun p=>(True,[bb (nJ p)])
def fT:(List Peer)→Prop×List PV×List PV:=mkF fun l=>(True,[I (if bu l=true then 0 else 1)])
def eC:(List Peer)→Prop×List PV×List PV:=mkF fun l=>(True,[bb (bu l)])
def iQ:Int×Int×Kid→Prop×List PV×List PV:=mkF fun (t,self,k)=>(True,[bb (fm t self k.node&&cnt k.inc&&rng k.age 0 6)])
def fU:Int×Int×Int×(List Kid)→Prop×List PV×List PV:=mkF fun (t,self,limit,l)=>(True,[I (if jM t self limit l=true then 0 else 1)])
def fV:Int×Int×Int×(List Kid)→Prop×List PV×List PV:=mkF fun (t,self,limit,l)=>(True,[bb (jM t self limit l)])
def fW:(List Item)×Int→Prop×List PV×List PV:=mkF fun (l,want)=>(cnt want=true∧l.length≤16,[bb (decide (l.length<want)&&du (want-l.length) l)])
def fX:(List Item)×Int×Int→Prop×List PV×List PV:=mkF fun (l,want,limit)=>(True,[I (if fJ l want limit=true then 0 else 1)])
def fY:(List Item)×Int×Int→Prop×List PV×List PV:=mkF fun (l,want,limit)=>(True,[bb (fJ l want limit)])
def iR:Int×Int×Int→Prop×List PV×List PV:=mkF fun (seq,want,window)=>(cnt want=true∧rng window 1 16=true,[bb (decide (want<seq)&&decide (seq<want+window)&&decide (seq<1073741824))])
def eD:(List Item)×Int×Int→Prop×List PV×List PV:=mkF fun (l,want,window)=>(True,[I (if lV l want window=true then 0 else 1)])
def dx:(List Item)×Int×Int→Prop×List PV×List PV:=mkF fun (l,want,window)=>(True,[bb (lV l want window)])
def gM:Event→Prop×List PV×List PV:=mkF fun x=>(True,[I (if dL x=true then 0 else 1)])
def gN:Event→Prop×List PV×List PV:=mkF fun x=>(True,[bb (dL x)])
def eE:(List Event)×Int→Prop×List PV×List PV:=mkF fun (l,limit)=>(True,[I (if bd l limit=true then 0 else 1)])
def eF:(List Event)×Int→Prop×List PV×List PV:=mkF fun (l,limit)=>(True,[bb (bd l limit)])
def ki:Stream→Prop×List PV×List PV:=mkF fun s=>(True,[bb (n7 s)])
def fZ:Config×Stream→Prop×List PV×List PV:=mkF fun (c,s)=>(True,[bb (jn c s)])
def ga:Config×Stream×(List Event)→Prop×List PV×List PV:=mkF fun (c,s,q)=>(True,[I (if bC c=true then (if dv c s q=true then 0 else 1) else 13)])
def dy:Config×Stream→Prop×List PV×List PV:=mkF fun (c,s)=>(True,[bb (jn c s)])
def gc:Config×Stream×(List Event)→Prop×List PV×List PV:=mkF fun (c,s,q)=>(True,[bb (dv c s q)])
def gd:Int×Int×Int→Prop×List PV×List PV:=mkF fun (t,self,n)=>(True,[bb (gV t self n)])
def ge:Int×Int×Int→Prop×List PV×List PV:=mkF fun (t,self,n)=>(True,[bb (gV t self n)])
def fw:Int×Topic→Prop×List PV×List PV:=mkF fun (self,x)=>(True,[bb (my self x)])
def dz:Topic→Prop×List PV×List PV:=mkF fun x=>(0≤x.parent∧x.parent≤8,[bb (mg x)])
def eG:Config×Int×Int×Topic→Prop×List PV×List PV:=mkF fun (c,t,self,x)=>(bC c=true,[bb (aS c t self x)])
def eH:Config×Int×Int×Topic→Prop×List PV×List PV:=mkF fun (c,t,self,x)=>(True,[I (if bC c=true then (if (jp c t self&&aS c t self x)=true then 0 else 1) else 13)])
def eI:Config×Int×Int×Topic→Prop×List PV×List PV:=mkF fun (c,t,self,x)=>(bC c=true∧jp c t self=true,[bb (aS c t self x)])
def gf:Config×Node→Prop×List PV×List PV:=mkF fun (c,n)=>(bC c=true,[bb (bD c n.asks 0 n.calls&&decide (n.calls.length≤40))])
def kj:Mark→Prop×List PV×List PV:=mkF fun m=>(True,[bb (fo m)])
def iS:Config×Mark2→Prop×List PV×List PV:=mkF fun (c,x)=>(bC c=true,[bb (lW c x)])
def gg:Config×Int×Node→Prop×List PV×List PV:=mkF fun (c,self,n)=>(bC c=true∧rng self 0 (c.nodes-1)=true,[bb (mz c self n)])
def gh:Config×Int×Node→Prop×List PV×List PV:=mkF fun (c,self,n)=>(True,[I (aU c self n)])
def gi:Config×Int×Node→Prop×List PV×List PV:=mkF fun (c,self,n)=>(bC c=true∧rng self 0 (c.nodes-1)=true,[bb (mz c self n)])
def eJ:(List Peer)×(List Peer)→Prop×List PV×List PV:=mkF fun (a,b)=>(True,[bb (decide (a=b))])
def gj:(List Kid)×(List Kid)→Prop×List PV×List PV:=mkF fun (a,b)=>(True,[bb (decide (a=b))])
def eK:(List Item)×(List Item)→Prop×List PV×List PV:=mkF fun (a,b)=>(True,[bb (decide (a=b))])
def dA:(List Event)×(List Event)→Prop×List PV×List PV:=mkF fun (a,b)=>(True,[bb (decide (a=b))])
def dB:Stream×Stream→Prop×List PV×List PV:=mkF fun (a,b)=>(True,[bb (decide (a=b))])
def eM:Topic×Topic→Prop×List PV×List PV:=mkF fun (a,b)=>(True,[bb (decide (a=b))])
def gk:Node×Node→Prop×List PV×List PV:=mkF fun (a,b)=>(True,[bb (decide (a=b))])
def cG:(List Kid)→Prop×List PV×List PV:=mkF fun l=>(l.length≤1000000,[L l])
def cn:(List Item)→Prop×List PV×List PV:=mkF fun l=>(l.length≤1000000,[L l])
def bW:(List Event)→Prop×List PV×List PV:=mkF fun l=>(l.length≤1000000,[L l])
def co:(List Peer)→Prop×List PV×List PV:=mkF fun l=>(l.length≤1000000,[L l])
def cH:Stream→Prop×List PV×List PV:=mkF fun s=>(s.kept.length≤1000000∧s.ahead.length≤1000000,Row.row s)
def cY:Topic→Prop×List PV×List PV:=mkF fun x=>(ck x=false,Row.row x)
def cI:Node→Prop×List PV×List PV:=mkF fun n=>(aI n=false,Row.row n)
def eN:Stream×(List Event)→Prop×List PV×List PV:=mkF fun (s,q)=>(True,[bb (xj s q)])
noncomputable def E5:=fnT eN
def eO:Topic→Prop×List PV×List PV:=mkF fun x=>(True,[bb (ck x)])
noncomputable def E6:=fnT eO
def eP:Node→Prop×List PV×List PV:=mkF fun n=>(True,[bb (aI n)])
noncomputable def E7:=fnT eP
def kM:Unit→Prop×List PV×List PV:=fun _=>(True,[],[I 8,I 4,I 2,I 8,I 8,I 8,I 16])
noncomputable def I0:=fnT kM
def aL:(List Peer)→Prop×List PV×List PV:=mkF fun l=>(l.length≤1000000,[L l])
def aM:(List Call)→Prop×List PV×List PV:=mkF fun l=>(l.length≤1000000,[L l])
def aN:(List Mark)→Prop×List PV×List PV:=mkF fun l=>(l.length≤1000000,[L l])
def aE:(List Mark2)→Prop×List PV×List PV:=mkF fun l=>(l.length≤1000000,[L l])
def aW:(List Kid)→Prop×List PV×List PV:=mkF fun l=>(l.length≤1000000,[L l])
def aF:(List Event)→Prop×List PV×List PV:=mkF fun l=>(l.length≤1000000,[L l])
def aO:(List Item)→Prop×List PV×List PV:=mkF fun l=>(l.length≤1000000,[L l])
def bp:(List Int)→Prop×List PV×List PV:=mkF fun l=>(l.length≤1000000,[L l])
noncomputable def ce:List PV→Option (List PV):=qq (fun (((l,i,j)):(List Call)×Int×Int)=>0≤i∧i≤j∧j≤l.length∧l.length<4611686018427387904) (fun (((l,i,j)):(List Call)×Int×Int)=>[L l,I i,I j]) (fun (((l,i,j)):(List Call)×Int×Int)=>[L (sD l i.toNat j.toNat)])
def km:Topic→Prop×List PV×List PV:=mkF fun x=>(True,[bb (nK x)])
def iT:Topic→Prop×List PV×List PV:=mkF fun x=>(ck x=false,Row.row x)
def kn:Event→Prop×List PV×List PV:=mkF fun x=>(True,Row.row (n9 x)++[bb (cT x)])
def io:(List Event)×Int×Event→Prop×List PV×List PV:=mkF fun (l,limit,x)=>(True,[L (vS l limit x).1,I (vS l limit x).2])
def iq:(List Event)×Int×Event→Prop×List PV×List PV:=mkF fun (l,limit,x)=>(l.length≤1000000,[L (sE l limit x)])
def ir:Node×Int→Prop×List PV×List PV:=mkF fun (n,o)=>(True,[bb (ov n o)])
def gl:(List Peer)×Int→Prop×List PV×List PV:=mkF fun (l,n)=>(True,[I (oX l n)])
def fH:(List Peer)×Int→Prop×List PV×List PV:=mkF fun (l,self)=>(True,[L (if oX l self=0 then ib l self else []),I (oX l self)])
def iu:Int×Node×Int→Prop×List PV×List PV:=mkF fun (self,n,t)=>(bu n.peers=true∧rng self 0 (n.peers.length-1)=true∧isT t=true,[I (ij t (ib n.peers self) self)])
def iv:Int×Node×Int→Prop×List PV×List PV:=mkF fun (self,n,t)=>(bu n.peers=true∧rng self 0 (n.peers.length-1)=true∧isT t=true∧t<n.topics.length∧(be n t).kids.length≤8∧(be n t).parent≤8∧0≤(be n t).parent,[L (qt self n t)])
def eQ:Config×Int×Node→Prop×List PV×List PV:=mkF fun (c,self,n)=>(True,[I (aU c self n)])
def iU:Config×Int×Node×Int×Int→Prop×List PV×List PV:=mkF fun (c,self,n,t,value)=>(True,Row.row (aT c self n t value).1++[L (aT c self n t value).2.1,I (aT c self n t value).2.2.1,I (aT c self n t value).2.2.2])
def ly:Msg→Prop×List PV×List PV:=mkF fun m=>(True,[bb (tz m)])
def gm:(List Int)→Prop×List PV×List PV:=mkF fun l=>(True,[bb (decide l.Nodup)])
def lz:(List Int)→Prop×List PV×List PV:=mkF fun l=>(True,[bb (mh l)])
def ko:Msg→Prop×List PV×List PV:=mkF fun m=>(True,[bb (tA m)])
def kp:Msg→Prop×List PV×List PV:=mkF fun m=>(True,[bb (lq m)])
noncomputable def gX:List PV→Option (List PV):=qq (fun (((l,n)):(List Int)×Int)=>l=[]∧0≤n∧n≤1000000) (fun (((l,n)):(List Int)×Int)=>[L l,I n]) (fun (((l,n)):(List Int)×Int)=>[L l])
def bf:(List (List Int))→Prop×List PV×List PV:=mkF fun ls=>(ls.flatten.length≤1000000,[L ls.flatten])
def jQ:Msg→Prop×List PV×List PV:=mkF fun m=>(True,Row.row (kd m).1++[bb (kd m).2])
def iw:Msg→Prop×List PV×List PV:=mkF fun m=>(True,[I (if gD m=true then 0 else 5)])
def ix:(List Int)×Int→Prop×List PV×List PV:=mkF fun (l,n)=>(True,[bb (l.contains n)])
def dC:(List Int)→Prop×List PV×List PV:=mkF fun l=>(True,[bb (decide l.Nodup)])
def eR:(List Int)→Prop×List PV×List PV:=mkF fun l=>(True,[bb (l.all isN&&decide (l.length≤8))])
def gO:Int→Prop×List PV×List PV:=mkF fun n=>(True,[bb (cnt n)])
def fx:Topic→Prop×List PV×List PV:=mkF fun x=>(True,[bb (nK x)])
def ec:(List Peer)×Int→Prop×List PV×List PV:=mkF fun (l,self)=>(l.length≤1000,[L (ib l self)])
def iy:(List Event)×Int×Event→Prop×List PV×List PV:=mkF fun (l,limit,x)=>((l.length≤1000∧2≤limit∧limit≤32∧(x.kind=3∨x.kind=4))∨(bd l limit=true∧dL x=true),[L (vT l limit x).1,bb (vT l limit x).2])
def iz:Msg×Msg→Prop×List PV×List PV:=mkF fun (a,b)=>(True,[bb (decide (a=b))])
def gn:(List Msg)×(List Msg)→Prop×List PV×List PV:=mkF fun (a,b)=>(True,[bb (decide (a=b))])
def iA:Msg→Prop×List PV×List PV:=mkF fun m=>(m.path.length≤30∧m.todo.length≤30,[bb (gD m)])
def eS:Config×Int×Node×Int×Int→Prop×List PV×List PV:=mkF fun (c,self,n,t,value)=>(aU c self n=0∧rng t 0 (c.topics-1)=true∧val value=true,Row.row (aT c self n t value).1++[L (aT c self n t value).2.1,I (aT c self n t value).2.2.1,I (aT c self n t value).2.2.2])
def iV:Int×Int→Prop×List PV×List PV:=mkF fun (n,top)=>(isN n=true∧0≤top∧top≤1073741824,[I (ld n top),I (if ld n top=0 then 11 else 0)])
def cZ:Int×Int→Prop×List PV×List PV:=mkF fun (n,top)=>(isN n=true∧0≤top∧top≤1073741824,[I (ld n top)])
def iW:Int×Int→Prop×List PV×List PV:=mkF fun (e,n)=>(True,Row.row (ON e n))
def gP:Int×Int→Prop×List PV×List PV:=mkF fun (epoch,n)=>(True,Row.row (ON epoch n))
def iX:Topic→Prop×List PV×List PV:=mkF fun x=>(ck x=false,Row.row (vc x))
def eT:Config×Int×Int×Topic→Prop×List PV×List PV:=mkF fun (c,t,self,x)=>(uP c t self x=0,Row.row ((ao self x).1)++[I (ao self x).2])
def dD:Int×Topic→Prop×List PV×List PV:=mkF fun (self,x)=>(ck x=false∧isN self=true∧0≤x.top∧x.top≤1073741824,Row.row ((ao self x).1)++[I (ao self x).2])
def dV:Msg→Prop×List PV×List PV:=mkF fun m=>(m.path.length≤30∧m.todo.length≤30,Row.row (m))
def lA:Msg→Prop×List PV×List PV:=mkF fun m=>(m.path.length≤30∧m.todo.length≤30,Row.row (m))
def iB:Int×Node×(List Msg)→Prop×List PV×List PV:=mkF fun (self,n,l)=>(l.length≤1000∧n.peers.length≤12∧ ∀m∈l,m.path.length≤30∧m.todo.length≤30,[L (mi self n l),bb (er self n l).isSome])
def eU:Int×Node×(List Msg)→Prop×List PV×List PV:=mkF fun (self,n,l)=>(l.length≤1000∧n.peers.length≤12∧ ∀m∈l,m.path.length≤30∧m.todo.length≤30,[L (mi self n l),bb (er self n l).isSome])
def eV:Int×Node×(List Msg)→Prop×List PV×List PV:=mkF fun (self,n,l)=>(l.length≤1000∧n.peers.length≤12∧ ∀m∈l,m.path.length≤30∧m.todo.length≤30,[L (mi self n l)])
def iC:Node→Prop×List PV×List PV:=mkF fun n=>(aI n=false,Row.row (n))
def iD:(List Item)×Int×Int×Int→Prop×List PV×List PV:=mkF fun (l,want,limit,value)=>(fJ l want limit=true∧val value=true∧want<1073741824,[L (tC l want limit value),I 0])
def go:(List Item)×Int→Prop×List PV×List PV:=mkF fun (l,want)=>(l.length≤1000∧0≤want∧want≤1073741824∧ ∀x∈l,want≤x.seq∧x.seq≤1073741824,[L (br l want),L (qu l want)])
def iE:Config×Stream×Bool×(List Event)×Int×Item→Prop×List PV×List PV:=mkF fun (c,s,sub,q,at_,x)=>(bC c=true∧dv c s q=true∧at_=s.epoch∧ep at_=true∧x.seq=s.want∧s.want<1073741823∧val x.value=true,Row.row ((cm c s sub q x.value).1)++[L (cm c s sub q x.value).2.1,L (cm c s sub q x.value).2.2,I 0])
def iF:Int×Topic×(List Item)→Prop×List PV×List PV:=mkF fun (t,x,on)=>(on.length≤1000∧x.kids.length≤1000,[L (jr t x on)])
def eW:Config×Int×Int×Topic×Int→Prop×List PV×List PV:=mkF fun (c,t,self,x,value)=>(uP c t self x=0∧val value=true,Row.row ((au c t self x value).1)++[L (au c t self x value).2.1,I (au c t self x value).2.2])
def iG:Int×Node×Int→Prop×List PV×List PV:=mkF fun (self,n,t)=>(bu n.peers=true∧rng self 0 (n.peers.length-1)=true∧isT t=true,[bb (G9 self t (ib n.peers self))])
def gp:(List Event)→Prop×List PV×List PV:=mkF fun l=>(l.length≤1000000,Row.row (l.headD dw)++[L l.tail,I (if l.length=0 then 10 else 0)])
def eX:Config×Int×Node×Int→Prop×List PV×List PV:=mkF fun (c,self,n,t)=>(aI n=false,[I (bm c self n t)])
def gr:Config×Int×Node×Int→Prop×List PV×List PV:=mkF fun (c,self,n,t)=>(aI n=false,[I (aJ c self n t)])
def cV:Config×Int×Node×Int→Prop×List PV×List PV:=mkF fun (c,self,n,t)=>(aI n=false,Row.row ((fK c self n t).1)++[I (fK c self n t).2])
def gt:Config×Int×Node×Int×Bool×Int→Prop×List PV×List PV:=mkF fun (c,self,n,t,sub,why)=>(aI n=false∧why≠0,Row.row ((fG c self n t sub why).1)++[I (fG c self n t sub why).2])
def bz:Config×Int×Node×Int→Prop×List PV×List PV:=mkF fun (c,self,n,t)=>(aI n=false,Row.row ((fG c self n t true 8).1)++[I (fG c self n t true 8).2])
def bO:Config×Int×Node×Int→Prop×List PV×List PV:=mkF fun (c,self,n,t)=>(aI n=false,Row.row ((fG c self n t false 7).1)++[I (fG c self n t false 7).2])
def cB:Config×Int×Node×Int×Int→Prop×List PV×List PV:=mkF fun (c,self,n,t,value)=>(aI n=false,Row.row ((ca c self n t value).1)++[L (ca c self n t value).2.1,I (ca c self n t value).2.2.1,I (ca c self n t value).2.2.2])
def de:Config×Int×Node×Int×Int→Prop×List PV×List PV:=mkF fun (c,self,n,t,value)=>(aI n=false,Row.row ((ju c self n t value).1)++[L (ju c self n t value).2.1,I (ju c self n t value).2.2.1,I (ju c self n t value).2.2.2])
def dj:Config×Int×Node×Int→Prop×List PV×List PV:=mkF fun (c,self,n,t)=>(aI n=false,Row.row ((ke c self n t).1)++Row.row ((ke c self n t).2.1)++[I (ke c self n t).2.2])
def gu:(List Item)×Int×Int×Int→Prop×List PV×List PV:=mkF fun (l,want,limit,value)=>(l.length≤1000∧0≤limit∧limit≤1000,[L (tC l want limit value)])
def iH:(List Event)×Int×Event→Prop×List PV×List PV:=mkF fun (l,limit,x)=>(bd l limit=true∧dL x=true,[L (sE l limit x)])
def gv:Config×Stream×Bool×(List Event)×Int×Item→Prop×List PV×List PV:=mkF fun (c,s,sub,q,epoch,x)=>(bC c=true∧dv c s q=true∧epoch=s.epoch∧ep epoch=true∧x.seq=s.want∧s.want<1073741823∧val x.value=true,Row.row ((cm c s sub q x.value).1)++[L (cm c s sub q x.value).2.1,L (cm c s sub q x.value).2.2])
def eY:Int×Topic×(List Item)→Prop×List PV×List PV:=mkF fun (t,x,on)=>(on.length≤1000∧x.kids.length≤1000,[L (jr t x on)])
def dE:Config×Int×Int×Topic×Int→Prop×List PV×List PV:=mkF fun (c,t,self,x,value)=>(uP c t self x=0∧val value=true,Row.row ((au c t self x value).1)++[L (au c t self x value).2.1,I (au c t self x value).2.2])
def df:Config×Int×Node×Int×Int→Prop×List PV×List PV:=mkF fun (c,self,n,t,value)=>(aI n=false∧bm c self n t=0∧val value=true,Row.row ((jt c self n t value).1)++[L (jt c self n t value).2.1,I (jt c self n t value).2.2.1,I (jt c self n t value).2.2.2])
def jw:Unit→Prop×List PV×List PV:=fun _=>(True,[],[bb true])
noncomputable def E8:=fnT jw
def eZ:Config×Int×Node×Int×Bool→Prop×List PV×List PV:=mkF fun (c,self,n,t,made)=>(aI n=false,[I (if made=true then aJ c self n t else bm c self n t)])
noncomputable def E9:=fnT eZ
def dF:Int×Int×Int→Prop×List PV×List PV:=mkF fun (t,limit,n)=>(True,[bb true])
noncomputable def nP:=fnT dF
def cJ:Config×Int×Node×Int×Int→Prop×List PV×List PV:=mkF fun (c,self,n,t,value)=>(True,[bb true])
noncomputable def nQ:=fnT cJ
noncomputable def oG:List PV→Option (List PV):=qq (fun (((l,want,window,x_seq,x_value)):(List Item)×Int×Int×Int×Int)=>False) (fun (((l,want,window,x_seq,x_value)):(List Item)×Int×Int×Int×Int)=>[L l,I want,I window,I x_seq,I x_value]) (fun (((l,want,window,x_seq,x_value)):(List Item)×Int×Int×Int×Int)=>[L l,I 0])
noncomputable def oH:List PV→Option (List PV):=qq (fun (((l,want,window,x_seq,x_value)):(List Item)×Int×Int×Int×Int)=>False) (fun (((l,want,window,x_seq,x_value)):(List Item)×Int×Int×Int×Int)=>[L l,I want,I window,I x_seq,I x_value]) (fun (((l,want,window,x_seq,x_value)):(List Item)×Int×Int×Int×Int)=>[L l,I 0])
noncomputable def ρ:Fns:=fun K=>match K with
 | 130=>fnT nv
 | 89=>fnT kf
 | 67=>fnT iO
 | 90=>fnT nw
 | 174=>fnT kL
 | 173=>fnT jv
 | 172=>fnT im
 | 39=>fnT lr
 | 12=>fnT gG
 | 123=>fnT dS
 | 121=>fnT fq
 | 111=>fnT mj
 | 117=>fnT ft
 | 68=>fnT jP
 | 239=>fnT fL
 | 203=>fnT fM
 | 98=>fnT dq
 | 104=>fnT fN
 | 221=>fnT fO
 | 152=>fnT bg
 | 248=>gW
 | 249=>et
 | 263=>fnT qv
 | 246=>fnT lu
 | 29=>fnT fP
 | 213=>fnT eu
 | 247=>fnT ew
 | 215=>fnT ey
 | 214=>fnT db
 | 165=>fnT fQ
 | 164=>fnT ez
 | 95=>fnT fR
 | 180=>fnT fu
 | 116=>fnT eA
 | 115=>fnT dc
 | 57=>fnT eB
 | 60=>fnT fS
 | 186=>nN
 | 185=>oZ
 | 131=>nO
 | 132=>fnT dT
 | 69=>fnT dU
 | 55=>fnT lv
 | 108=>fnT fv
 | 159=>fnT gH
 | 238=>fnT kg
 | 91=>fnT qw
 | 133=>fnT gI
 | 43=>fnT kh
 | 70=>fnT ny
 | 65=>fnT lw
 | 218=>fnT lx
 | 24=>fnT gJ
 | 266=>fnT gK
 | 219=>fnT gL
 | 146=>fnT iP
 | 77=>fnT fT
 | 170=>fnT eC
 | 192=>fnT iQ
 | 148=>fnT fU
 | 222=>fnT fV
 | 261=>fnT fW
 | 241=>fnT fX
 | 267=>fnT fY
 | 211=>fnT iR
 | 208=>fnT eD
 | 268=>fnT dx
 | 234=>fnT gM
 | 269=>fnT gN
 | 233=>fnT eE
 | 254=>fnT eF
 | 260=>fnT ki
 | 240=>fnT fZ
 | 204=>fnT ga
 | 253=>fnT dy
 | 223=>fnT gc
 | 200=>fnT gd
 | 220=>fnT ge
 | 201=>fnT fw
 | 202=>fnT dz
 | 157=>fnT eG
 | 92=>fnT eH
 | 171=>fnT eI
 | 134=>fnT gf
 | 137=>fnT kj
 | 140=>fnT iS
 | 71=>fnT gg
 | 31=>fnT gh
 | 109=>fnT gi
 | 52=>fnT eJ
 | 105=>fnT gj
 | 169=>fnT eK
 | 107=>fnT dA
 | 106=>fnT dB
 | 53=>fnT eM
 | 22=>fnT gk
 | 99=>fnT cG
 | 166=>fnT cn
 | 101=>fnT bW
 | 49=>fnT co
 | 100=>fnT cH
 | 50=>fnT cY
 | 19=>fnT cI
 | 97=>E5
 | 48=>E6
 | 18=>E7
 | 7=>I0
 | 73=>fnT aL
 | 74=>fnT aM
 | 75=>fnT aN
 | 76=>fnT aE
 | 142=>fnT aW
 | 96=>fnT aF
 | 189=>fnT aO
 | 141=>fnT bp
 | 252=>ce
 | 217=>fnT km
 | 72=>fnT iT
 | 235=>fnT kn
 | 191=>fnT io
 | 147=>fnT iq
 | 86=>fnT ir
 | 78=>fnT gl
 | 34=>fnT fH
 | 46=>fnT iu
 | 168=>fnT iv
 | 54=>fnT eQ
 | 51=>fnT iU
 | 155=>fnT ly
 | 198=>fnT gm
 | 195=>fnT lz
 | 196=>fnT ko
 | 197=>fnT kp
 | 237=>gX
 | 199=>fnT bf
 | 154=>fnT jQ
 | 88=>fnT iw
 | 120=>fnT ix
 | 125=>fnT dC
 | 124=>fnT eR
 | 122=>fnT gO
 | 119=>fnT fx
 | 110=>fnT ec
 | 226=>fnT iy
 | 61=>fnT iz
 | 26=>fnT gn
 | 66=>fnT iA
 | 27=>fnT eS
 | 150=>fnT iV
 | 175=>fnT cZ
 | 151=>fnT iW
 | 177=>fnT gP
 | 176=>fnT iX
 | 83=>fnT eT
 | 112=>fnT dD
 | 64=>fnT dV
 | 87=>fnT lA
 | 37=>fnT iB
 | 28=>fnT eU
 | 59=>fnT eV
 | 32=>fnT iC
 | 205=>fnT iD
 | 207=>fnT go
 | 93=>fnT iE
 | 94=>fnT iF
 | 45=>fnT eW
 | 44=>fnT iG
 | 47=>fnT gp
 | 40=>fnT eX
 | 42=>fnT gr
 | 13=>fnT cV
 | 41=>fnT gt
 | 14=>fnT bz
 | 20=>fnT bO
 | 15=>fnT cB
 | 21=>fnT de
 | 16=>fnT dj
 | 224=>fnT gu
 | 225=>fnT iH
 | 113=>fnT gv
 | 114=>fnT eY
 | 58=>fnT dE
 | 25=>fnT df
 | 17=>E8
 | 23=>E9
 | 5=>nP
 | 6=>nQ
 | 163=>oG
 | 179=>oH
 | _=>fun _=>none
theorem CE{α:Type}[Enc α](F:α→Prop×List PV×List PV)(K m:Nat)(e:ρ K=fnT F)(hg: ∀a,(F a).2.1=Enc.enc a)(a:α)(k:x7 m)(hp:(F a).1)(hm:(F a).2.2.length=m):CALL ρ K (F a).2.1 m k=app m k (F a).2.2:=vM e hg a hp hm
def dW:=by
 have h:=fun n k_=>CE nv 130 1 rfl (fun _=>rfl) n k_ trivial rfl
 simp only[nv,RR,ah,ai] at h
 exact h
def oI:=by
 have h:=fun n k_=>CE kf 89 2 rfl (fun _=>rfl) n k_ trivial rfl
 simp only[kf,RR,ah,ai] at h
 exact h
def ra:=by
 have h:=fun t k_=>CE iO 67 2 rfl (fun _=>rfl) t k_ trivial rfl
 simp only[iO,RR,ah,ai] at h
 exact h
def uJ:=by
 have h:=fun k  n k_ h_=>CE nw 90 1 rfl (fun _=>rfl) (k,n) k_ h_ rfl
 simp only[nw,RR,ah,ai] at h
 exact h
theorem rb{z0:Int}{k_:PV→Prop}(h:isN z0=true):CALL ρ 174 [I z0] 1 k_=k_ (I (nn z0)):=vM (F:=kL) rfl (fun _=>rfl) z0 h rfl
theorem Ea{z0:Int}{k_:PV→Prop}(h:isT z0=true):CALL ρ 173 [I z0] 1 k_=k_ (I (tt z0)):=vM (F:=jv) rfl (fun _=>rfl) z0 h rfl
theorem nR{z0 z1:Int}{k_:PV→Prop}(h:0≤z0∧z0<4611686018427387904∧0≤z1∧z1<4611686018427387904):CALL ρ 172 [I z0,I z1] 1 k_=k_ (I (far z0 z1)):=vM (F:=im) rfl (fun _=>rfl) (z0,z1) h rfl
def nS:=by
 have h:=fun t  n k_=>CE lr 39 2 rfl (fun _=>rfl) (t,n) k_ trivial rfl
 simp only[lr,RR,ah,ai] at h
 exact h
def dl:=by
 have h:=fun t  a  b k_=>CE gG 12 1 rfl (fun _=>rfl) (t,a,b) k_ trivial rfl
 simp only[gG,RR,ah,ai] at h
 exact h
def mB:=by
 have h:=fun t k_=>CE dS 123 1 rfl (fun _=>rfl) t k_ trivial rfl
 simp only[dS,RR,ah,ai] at h
 exact h
def dG:=by
 have h:=fun n k_=>CE fq 121 1 rfl (fun _=>rfl) n k_ trivial rfl
 simp only[fq,RR,ah,ai] at h
 exact h
theorem kq{z0 z1:Int}{k_:PV→Prop}(h:isT z0=true∧isN z1=true):CALL ρ 111 [I z0,I z1] 1 k_=k_ (I (gap z0 z1)):=vM (F:=mj) rfl (fun _=>rfl) (z0,z1) h rfl
def kN:=by
 have h:=fun t  a  b k_=>CE ft 117 1 rfl (fun _=>rfl) (t,a,b) k_ trivial rfl
 simp only[ft,RR,ah,ai] at h
 exact h
def vV:=by
 have h:=fun l k_=>CE jP 68 1 rfl (fun _=>rfl) l k_ trivial rfl
 simp only[jP,RR,ah,ai] at h
 exact h
def I1:=by
 have h:=fun t  self  l k_=>CE fL 239 1 rfl (fun _=>rfl) (t,self,l) k_ trivial rfl
 simp only[fL,RR,ah,ai] at h
 exact h
def I2:=by
 have h:=fun t  self  l  depth k_=>CE fM 203 1 rfl (fun _=>rfl) (t,self,l,depth) k_ trivial rfl
 simp only[fM,RR,ah,ai] at h
 exact h
def iY:=by
 have h:=fun l k_ h_=>CE dq 98 1 rfl (fun _=>rfl) l k_ h_ rfl
 simp only[dq,RR,ah,ai] at h
 exact h
def xk:=by
 have h:=fun a  b k_=>CE fN 104 1 rfl (fun _=>rfl) (a,b) k_ trivial rfl
 simp only[fN,RR,ah,ai] at h
 exact h
def I3:=by
 have h:=fun t  self  l  depth k_ h_=>CE fO 221 1 rfl (fun _=>rfl) (t,self,l,depth) k_ h_ rfl
 simp only[fO,RR,ah,ai] at h
 exact h
def bK:=by
 have h:=fun l  n k_=>CE bg 152 1 rfl (fun _=>rfl) (l,n) k_ trivial rfl
 simp only[bg,RR,ah,ai] at h
 exact h
theorem sF{l:List Int}(h:l.length<4611686018427387904):gW [L l]=some [L (mw l)]:=lR (a:=l) (by intro a b h;simpa[fk,vb] using h) h
theorem sG{l:List Int}{k_:PV→Prop}(h:l.length<4611686018427387904):CALL ρ 248 [L l] 1 k_=k_ (L (mw l)):=lS (ρ:=ρ) (K:=248) (m:=1) (k:=k_) (sF h) rfl
theorem pb{l:List Int}(h:l.length<4611686018427387904):et [L l]=some [L (bB l)]:=lR (a:=l) (by intro a b h;simpa[fk,vb] using h) h
theorem pc{l:List Int}{k_:PV→Prop}(h:l.length<4611686018427387904):CALL ρ 249 [L l] 1 k_=k_ (L (bB l)):=lS (ρ:=ρ) (K:=249) (m:=1) (k:=k_) (pb h) rfl
def QK:=by
 have h:=fun k k_=>CE qv 263 1 rfl (fun _=>rfl) k k_ trivial rfl
 simp only[qv,RR,ah,ai] at h
 exact h
def Nu:=by
 have h:=fun k  bits k_=>CE lu 246 2 rfl (fun _=>rfl) (k,bits) k_ trivial rfl
 simp only[lu,RR,ah,ai] at h
 exact h
def I4:=by
 have h:=fun t  l k_=>CE fP 29 2 rfl (fun _=>rfl) (t,l) k_ trivial rfl
 simp only[fP,RR,ah,ai] at h
 exact h
def Eb:=by
 have h:=fun live  self k_=>CE eu 213 1 rfl (fun _=>rfl) (live,self) k_ trivial rfl
 simp only[eu,RR,ah,ai] at h
 exact h
def Ec:=by
 have h:=fun live  k k_ h_=>CE ew 247 1 rfl (fun _=>rfl) (live,k) k_ h_ rfl
 simp only[ew,RR,ah,ai] at h
 exact h
def Ed:=by
 have h:=fun live  self k_ h_=>CE ey 215 1 rfl (fun _=>rfl) (live,self) k_ h_ rfl
 simp only[ey,RR,ah,ai] at h
 exact h
def zU:=by
 have h:=fun live  self k_ h_=>CE db 214 1 rfl (fun _=>rfl) (live,self) k_ h_ rfl
 simp only[db,RR,ah,ai] at h
 exact h
def I5:=by
 have h:=fun t  live  self k_ h_=>CE fQ 165 1 rfl (fun _=>rfl) (t,live,self) k_ h_ rfl
 simp only[fQ,RR,ah,ai] at h
 exact h
def Ee:=by
 have h:=fun t  live  self k_=>CE ez 164 1 rfl (fun _=>rfl) (t,live,self) k_ trivial rfl
 simp only[ez,RR,ah,ai] at h
 exact h
def I6:=by
 have h:=fun t  live  self k_=>CE fR 95 3 rfl (fun _=>rfl) (t,live,self) k_ trivial rfl
 simp only[fR,RR,ah,ai] at h
 exact h
def nT:=by
 have h:=fun n  self k_ h_=>CE fu 180 1 rfl (fun _=>rfl) (n,self) k_ h_ rfl
 simp only[fu,RR,ah,ai] at h
 exact h
def Ef:=by
 have h:=fun live  self k_ h_=>CE eA 116 1 rfl (fun _=>rfl) (live,self) k_ h_ rfl
 simp only[eA,RR,ah,ai] at h
 exact h
def zV:=by
 have h:=fun live  self k_ h_=>CE dc 115 1 rfl (fun _=>rfl) (live,self) k_ h_ rfl
 simp only[dc,RR,ah,ai] at h
 exact h
def vf:=by
 have h:=fun t  l k_ h_=>CE eB 57 1 rfl (fun _=>rfl) (t,l) k_ h_ rfl
 simp only[eB,RR,ah,ai] at h
 exact h
def xl:=by
 have h:=fun t  live  self k_ h_=>CE fS 60 1 rfl (fun _=>rfl) (t,live,self) k_ h_ rfl
 simp only[fS,RR,ah,ai] at h
 exact h
theorem BK{s:ByteArray}{n lo hi why:Int}:nN [.str s,I n,I lo,I hi,I why]=some [E ⟨false,if n<lo∨hi<n then [why] else []⟩]:=lR (a:=(s,n,lo,hi,why)) (by rintro ⟨_,_,_,_,_⟩ ⟨_,_,_,_,_⟩ h;simpa[fk,vb] using h) trivial
theorem BL{s:ByteArray}{n lo hi why:Int}{k_:PV→Prop}:CALL ρ 186 [.str s,I n,I lo,I hi,I why] 1 k_=k_ (E ⟨false,if n<lo∨hi<n then [why] else []⟩):=lS (ρ:=ρ) (K:=186) (m:=1) (k:=k_) (BK) rfl
theorem Eg{xs:List Er}(h:xs≠[]∧xs.length≤1000∧ ∀x∈xs,x.j=false):oZ [L xs]=some [E ⟨true,xs.flatMap (·.l)⟩]:=lR (a:=xs) (by intro a b h;simpa[fk,vb] using h) h
theorem vg{xs:List Er}{k_:PV→Prop}(h:xs≠[]∧xs.length≤1000∧ ∀x∈xs,x.j=false):CALL ρ 185 [L xs] 1 k_=k_ (E ⟨true,xs.flatMap (·.l)⟩):=lS (ρ:=ρ) (K:=185) (m:=1) (k:=k_) (Eg h) rfl
theorem BM{x:Er}(h:x.l.length≤1000):nO [E x]=some [I (iN x.l)]:=lR (a:=x) (by intro a b h;simpa[fk,vb] using h) h
theorem BN{x:Er}{k_:PV→Prop}(h:x.l.length≤1000):CALL ρ 131 [E x] 1 k_=k_ (I (iN x.l)):=lS (ρ:=ρ) (K:=131) (m:=1) (k:=k_) (BM h) rfl
def zW:=by
 have h:=ba fun c k_=>CE dT 132 1 rfl (fun _=>rfl) c k_ trivial rfl
 simp only[dT,RR,ah,ai] at h
 exact h
def mC:=by
 have h:=ba fun c k_=>CE dU 69 1 rfl (fun _=>rfl) c k_ trivial rfl
 simp only[dU,RR,ah,ai] at h
 exact h
def lB:=by
 have h:=fun n  lo  hi k_=>CE lv 55 1 rfl (fun _=>rfl) (n,lo,hi) k_ trivial rfl
 simp only[lv,RR,ah,ai] at h
 exact h
def BO:=by
 have h:=ba fun c k_=>CE fv 108 1 rfl (fun _=>rfl) c k_ trivial rfl
 simp only[fv,RR,ah,ai] at h
 exact h
def jx:=by
 have h:=fun e k_=>CE gH 159 1 rfl (fun _=>rfl) e k_ trivial rfl
 simp only[gH,RR,ah,ai] at h
 exact h
def L8:=by
 have h:=fun e k_=>CE kg 238 2 rfl (fun _=>rfl) e k_ trivial rfl
 simp only[kg,RR,ah,ai] at h
 exact h
def qx:=by
 have h:=fun n  lo  hi k_=>CE qw 91 1 rfl (fun _=>rfl) (n,lo,hi) k_ trivial rfl
 simp only[qw,RR,ah,ai] at h
 exact h
def bI:=by
 have h:=fun n k_=>CE gI 133 1 rfl (fun _=>rfl) n k_ trivial rfl
 simp only[gI,RR,ah,ai] at h
 exact h
def cb:=by
 have h:=fun n k_=>CE kh 43 1 rfl (fun _=>rfl) n k_ trivial rfl
 simp only[kh,RR,ah,ai] at h
 exact h
def fy:=by
 have h:=fun n  lo  hi k_=>CE ny 70 1 rfl (fun _=>rfl) (n,lo,hi) k_ trivial rfl
 simp only[ny,RR,ah,ai] at h
 exact h
def vW:=by
 have h:=fun n  lo  hi k_=>CE lw 65 1 rfl (fun _=>rfl) (n,lo,hi) k_ trivial rfl
 simp only[lw,RR,ah,ai] at h
 exact h
def cq:=by
 have h:=fun n  lo  hi k_=>CE lx 218 1 rfl (fun _=>rfl) (n,lo,hi) k_ trivial rfl
 simp only[lx,RR,ah,ai] at h
 exact h
def gQ:=by
 have h:=fun n k_=>CE gJ 24 1 rfl (fun _=>rfl) n k_ trivial rfl
 simp only[gJ,RR,ah,ai] at h
 exact h
def vh:=by
 have h:=fun n k_=>CE gK 266 1 rfl (fun _=>rfl) n k_ trivial rfl
 simp only[gK,RR,ah,ai] at h
 exact h
def pd:=by
 have h:=fun e k_=>CE gL 219 1 rfl (fun _=>rfl) e k_ trivial rfl
 simp only[gL,RR,ah,ai] at h
 exact h
def rc:=by
 have h:=TF fun p k_=>CE iP 146 1 rfl (fun _=>rfl) p k_ trivial rfl
 simp only[iP,RR,ah,ai] at h
 exact h
def rd:=by
 have h:=fun l k_=>CE fT 77 1 rfl (fun _=>rfl) l k_ trivial rfl
 simp only[fT,RR,ah,ai] at h
 exact h
def Eh:=by
 have h:=fun l k_=>CE eC 170 1 rfl (fun _=>rfl) l k_ trivial rfl
 simp only[eC,RR,ah,ai] at h
 exact h
def I7:=by
 have h:=fun t  self=>Um fun k k_=>CE iQ 192 1 rfl (fun _=>rfl) (t,self,k) k_ trivial rfl
 simp only[iQ,RR,ah,ai] at h
 exact h
def I8:=by
 have h:=fun t  self  limit  l k_=>CE fU 148 1 rfl (fun _=>rfl) (t,self,limit,l) k_ trivial rfl
 simp only[fU,RR,ah,ai] at h
 exact h
def I9:=by
 have h:=fun t  self  limit  l k_=>CE fV 222 1 rfl (fun _=>rfl) (t,self,limit,l) k_ trivial rfl
 simp only[fV,RR,ah,ai] at h
 exact h
def Ia:=by
 have h:=fun l  want k_ h_=>CE fW 261 1 rfl (fun _=>rfl) (l,want) k_ h_ rfl
 simp only[fW,RR,ah,ai] at h
 exact h
def xm:=by
 have h:=fun l  want  limit k_=>CE fX 241 1 rfl (fun _=>rfl) (l,want,limit) k_ trivial rfl
 simp only[fX,RR,ah,ai] at h
 exact h
def Ib:=by
 have h:=fun l  want  limit k_=>CE fY 267 1 rfl (fun _=>rfl) (l,want,limit) k_ trivial rfl
 simp only[fY,RR,ah,ai] at h
 exact h
def Ic:=by
 have h:=fun seq  want  window k_ h_=>CE iR 211 1 rfl (fun _=>rfl) (seq,want,window) k_ h_ rfl
 simp only[iR,RR,ah,ai] at h
 exact h
def Ei:=by
 have h:=fun l  want  window k_=>CE eD 208 1 rfl (fun _=>rfl) (l,want,window) k_ trivial rfl
 simp only[eD,RR,ah,ai] at h
 exact h
def BP:=by
 have h:=fun l  want  window k_=>CE dx 268 1 rfl (fun _=>rfl) (l,want,window) k_ trivial rfl
 simp only[dx,RR,ah,ai] at h
 exact h
def cM:=by
 have h:=qZ fun x k_=>CE gM 234 1 rfl (fun _=>rfl) x k_ trivial rfl
 simp only[gM,RR,ah,ai] at h
 exact h
def Ej:=by
 have h:=qZ fun x k_=>CE gN 269 1 rfl (fun _=>rfl) x k_ trivial rfl
 simp only[gN,RR,ah,ai] at h
 exact h
def vj:=by
 have h:=fun l  limit k_=>CE eE 233 1 rfl (fun _=>rfl) (l,limit) k_ trivial rfl
 simp only[eE,RR,ah,ai] at h
 exact h
def Ek:=by
 have h:=fun l  limit k_=>CE eF 254 1 rfl (fun _=>rfl) (l,limit) k_ trivial rfl
 simp only[eF,RR,ah,ai] at h
 exact h
def L9:=by
 have h:=il fun s k_=>CE ki 260 1 rfl (fun _=>rfl) s k_ trivial rfl
 simp only[ki,RR,ah,ai] at h
 exact h
def Id:=by
 have h:=ba fun c=>il fun s k_=>CE fZ 240 1 rfl (fun _=>rfl) (c,s) k_ trivial rfl
 simp only[fZ,RR,ah,ai] at h
 exact h
def xn:=by
 have h:=ba fun c=>il fun s  q k_=>CE ga 204 1 rfl (fun _=>rfl) (c,s,q) k_ trivial rfl
 simp only[ga,RR,ah,ai] at h
 exact h
def BQ:=by
 have h:=ba fun c=>il fun s k_=>CE dy 253 1 rfl (fun _=>rfl) (c,s) k_ trivial rfl
 simp only[dy,RR,ah,ai] at h
 exact h
def Ie:=by
 have h:=ba fun c=>il fun s  q k_=>CE gc 223 1 rfl (fun _=>rfl) (c,s,q) k_ trivial rfl
 simp only[gc,RR,ah,ai] at h
 exact h
def Ig:=by
 have h:=fun t  self  n k_=>CE gd 200 1 rfl (fun _=>rfl) (t,self,n) k_ trivial rfl
 simp only[gd,RR,ah,ai] at h
 exact h
def Ih:=by
 have h:=fun t  self  n k_=>CE ge 220 1 rfl (fun _=>rfl) (t,self,n) k_ trivial rfl
 simp only[ge,RR,ah,ai] at h
 exact h
def BR:=by
 have h:=fun self=>dh fun x k_=>CE fw 201 1 rfl (fun _=>rfl) (self,x) k_ trivial rfl
 simp only[fw,RR,ah,ai] at h
 exact h
def BS:=by
 have h:=dh fun x k_ h_=>CE dz 202 1 rfl (fun _=>rfl) x k_ h_ rfl
 simp only[dz,RR,ah,ai] at h
 exact h
def El:=by
 have h:=ba fun c  t  self=>dh fun x k_ h_=>CE eG 157 1 rfl (fun _=>rfl) (c,t,self,x) k_ h_ rfl
 simp only[eG,RR,ah,ai] at h
 exact h
def pe:=by
 have h:=ba fun c  t  self=>dh fun x k_=>CE eH 92 1 rfl (fun _=>rfl) (c,t,self,x) k_ trivial rfl
 simp only[eH,RR,ah,ai] at h
 exact h
def Em:=by
 have h:=ba fun c  t  self=>dh fun x k_ h_=>CE eI 171 1 rfl (fun _=>rfl) (c,t,self,x) k_ h_ rfl
 simp only[eI,RR,ah,ai] at h
 exact h
def Ii:=by
 have h:=ba fun c=>cD fun n k_ h_=>CE gf 134 1 rfl (fun _=>rfl) (c,n) k_ h_ rfl
 simp only[gf,RR,ah,ai] at h
 exact h
def La:=by
 have h:=TG fun m k_=>CE kj 137 1 rfl (fun _=>rfl) m k_ trivial rfl
 simp only[kj,RR,ah,ai] at h
 exact h
def Ij:=by
 have h:=ba fun c=>S9 fun x k_ h_=>CE iS 140 1 rfl (fun _=>rfl) (c,x) k_ h_ rfl
 simp only[iS,RR,ah,ai] at h
 exact h
def Ik:=by
 have h:=ba fun c  self=>cD fun n k_ h_=>CE gg 71 1 rfl (fun _=>rfl) (c,self,n) k_ h_ rfl
 simp only[gg,RR,ah,ai] at h
 exact h
def na:=by
 have h:=ba fun c  self=>cD fun n k_=>CE gh 31 1 rfl (fun _=>rfl) (c,self,n) k_ trivial rfl
 simp only[gh,RR,ah,ai] at h
 exact h
def Il:=by
 have h:=ba fun c  self=>cD fun n k_ h_=>CE gi 109 1 rfl (fun _=>rfl) (c,self,n) k_ h_ rfl
 simp only[gi,RR,ah,ai] at h
 exact h
def En:=by
 have h:=fun a  b k_=>CE eJ 52 1 rfl (fun _=>rfl) (a,b) k_ trivial rfl
 simp only[eJ,RR,ah,ai] at h
 exact h
def Im:=by
 have h:=fun a  b k_=>CE gj 105 1 rfl (fun _=>rfl) (a,b) k_ trivial rfl
 simp only[gj,RR,ah,ai] at h
 exact h
def Eo:=by
 have h:=fun a  b k_=>CE eK 169 1 rfl (fun _=>rfl) (a,b) k_ trivial rfl
 simp only[eK,RR,ah,ai] at h
 exact h
def BT:=by
 have h:=fun a  b k_=>CE dA 107 1 rfl (fun _=>rfl) (a,b) k_ trivial rfl
 simp only[dA,RR,ah,ai] at h
 exact h
def tF:=by
 have h:=il fun a=>il fun b k_=>CE dB 106 1 rfl (fun _=>rfl) (a,b) k_ trivial rfl
 simp only[dB,RR,ah,ai] at h
 exact h
def Ep:=by
 have h:=dh fun a=>dh fun b k_=>CE eM 53 1 rfl (fun _=>rfl) (a,b) k_ trivial rfl
 simp only[eM,RR,ah,ai] at h
 exact h
def Io:=by
 have h:=cD fun a=>cD fun b k_=>CE gk 22 1 rfl (fun _=>rfl) (a,b) k_ trivial rfl
 simp only[gk,RR,ah,ai] at h
 exact h
def yx:=by
 have h:=fun l k_ h_=>CE cG 99 1 rfl (fun _=>rfl) l k_ h_ rfl
 simp only[cG,RR,ah,ai] at h
 exact h
def xo:=by
 have h:=fun l k_ h_=>CE cn 166 1 rfl (fun _=>rfl) l k_ h_ rfl
 simp only[cn,RR,ah,ai] at h
 exact h
def aY:=by
 have h:=fun l k_ h_=>CE bW 101 1 rfl (fun _=>rfl) l k_ h_ rfl
 simp only[bW,RR,ah,ai] at h
 exact h
def oJ:=by
 have h:=fun l k_ h_=>CE co 49 1 rfl (fun _=>rfl) l k_ h_ rfl
 simp only[co,RR,ah,ai] at h
 exact h
def nU:=by
 have h:=il fun s k_ h_=>CE cH 100 5 rfl (fun _=>rfl) s k_ h_ rfl
 simp only[cH,RR,ah,ai] at h
 exact h
def ic:=by
 have h:=dh fun x k_ h_=>CE cY 50 16 rfl (fun _=>rfl) x k_ h_ rfl
 simp only[cY,RR,ah,ai] at h
 exact h
def qy:=by
 have h:=cD fun n k_ h_=>CE cI 19 9 rfl (fun _=>rfl) n k_ h_ rfl
 simp only[cI,RR,ah,ai] at h
 exact h
def Es:=by
 have h:=il fun s  q k_=>CE eN 97 1 rfl (fun _=>rfl) (s,q) k_ trivial rfl
 simp only[eN,RR,ah,ai] at h
 exact h
def jy:=by
 have h:=dh fun x k_=>CE eO 48 1 rfl (fun _=>rfl) x k_ trivial rfl
 simp only[eO,RR,ah,ai] at h
 exact h
def pf:=by
 have h:=cD fun n k_=>CE eP 18 1 rfl (fun _=>rfl) n k_ trivial rfl
 simp only[eP,RR,ah,ai] at h
 exact h
theorem re  {k_:PV→PV→PV→PV→PV→PV→PV→Prop}:CALL ρ 7 [] 7 k_=k_ (I 8) (I 4) (I 2) (I 8) (I 8) (I 8) (I 16):=Nd (F:=kM) rfl (fun _ _ _=>rfl) () trivial rfl
def ed:=by
 have h:=fun l k_ h_=>CE aL 73 1 rfl (fun _=>rfl) l k_ h_ rfl
 simp only[aL,RR,ah,ai] at h
 exact h
def ee:=by
 have h:=fun l k_ h_=>CE aM 74 1 rfl (fun _=>rfl) l k_ h_ rfl
 simp only[aM,RR,ah,ai] at h
 exact h
def ef:=by
 have h:=fun l k_ h_=>CE aN 75 1 rfl (fun _=>rfl) l k_ h_ rfl
 simp only[aN,RR,ah,ai] at h
 exact h
def dH:=by
 have h:=fun l k_ h_=>CE aE 76 1 rfl (fun _=>rfl) l k_ h_ rfl
 simp only[aE,RR,ah,ai] at h
 exact h
def lC:=by
 have h:=fun l k_ h_=>CE aW 142 1 rfl (fun _=>rfl) l k_ h_ rfl
 simp only[aW,RR,ah,ai] at h
 exact h
def aG:=by
 have h:=fun l k_ h_=>CE aF 96 1 rfl (fun _=>rfl) l k_ h_ rfl
 simp only[aF,RR,ah,ai] at h
 exact h
def aA:=by
 have h:=fun l k_ h_=>CE aO 189 1 rfl (fun _=>rfl) l k_ h_ rfl
 simp only[aO,RR,ah,ai] at h
 exact h
def gw:=by
 have h:=fun l k_ h_=>CE bp 141 1 rfl (fun _=>rfl) l k_ h_ rfl
 simp only[bp,RR,ah,ai] at h
 exact h
theorem kv{l:List Call}{i j:Int}(h:0≤i∧i≤j∧j≤l.length∧l.length<4611686018427387904):ce [L l,I i,I j]=some [L (sD l i.toNat j.toNat)]:=lR (a:=(l,i,j)) (by rintro ⟨_,_,_⟩ ⟨_,_,_⟩ h;simpa[fk,vb] using h) h
theorem kw{l:List Call}{i j:Int}{k_:PV→Prop}(h:0≤i∧i≤j∧j≤l.length∧l.length<4611686018427387904):CALL ρ 252 [L l,I i,I j] 1 k_=k_ (L (sD l i.toNat j.toNat)):=lS (ρ:=ρ) (K:=252) (m:=1) (k:=k_) (kv h) rfl
def Lb:=by
 have h:=dh fun x k_=>CE km 217 1 rfl (fun _=>rfl) x k_ trivial rfl
 simp only[km,RR,ah,ai] at h
 exact h
def rf:=by
 have h:=dh fun x k_ h_=>CE iT 72 16 rfl (fun _=>rfl) x k_ h_ rfl
 simp only[iT,RR,ah,ai] at h
 exact h
def Lc:=by
 have h:=qZ fun x k_=>CE kn 235 7 rfl (fun _=>rfl) x k_ trivial rfl
 simp only[kn,RR,ah,ai] at h
 exact h
def Ld:=by
 have h:=fun l  limit=>qZ fun x k_=>CE io 191 2 rfl (fun _=>rfl) (l,limit,x) k_ trivial rfl
 simp only[io,RR,ah,ai] at h
 exact h
def zq:=by
 have h:=fun l  limit=>qZ fun x k_ h_=>CE iq 147 1 rfl (fun _=>rfl) (l,limit,x) k_ h_ rfl
 simp only[iq,RR,ah,ai] at h
 exact h
def zr:=by
 have h:=cD fun n  o k_=>CE ir 86 1 rfl (fun _=>rfl) (n,o) k_ trivial rfl
 simp only[ir,RR,ah,ai] at h
 exact h
def rg:=by
 have h:=fun l  n k_=>CE gl 78 1 rfl (fun _=>rfl) (l,n) k_ trivial rfl
 simp only[gl,RR,ah,ai] at h
 exact h
def zt:=by
 have h:=fun l  self k_=>CE fH 34 2 rfl (fun _=>rfl) (l,self) k_ trivial rfl
 simp only[fH,RR,ah,ai] at h
 exact h
def zu:=by
 have h:=fun self=>cD fun n  t k_ h_=>CE iu 46 1 rfl (fun _=>rfl) (self,n,t) k_ h_ rfl
 simp only[iu,RR,ah,ai] at h
 exact h
theorem zw{z0:Int}{z1:Bool}{z2:Int}{z3:List Peer}{z4:List Topic}{z5:List Call}{z6 z7:Int}{z8:List Mark}{z9:List Mark2}{y0:Int}{k_:PV→Prop}(h:bu (Node.mk z1 z2 z3 z4 z5 z6 z7 z8 z9).peers=true∧rng z0 0 ((Node.mk z1 z2 z3 z4 z5 z6 z7 z8 z9).peers.length-1)=true∧isT y0=true∧y0<(Node.mk z1 z2 z3 z4 z5 z6 z7 z8 z9).topics.length∧(be (Node.mk z1 z2 z3 z4 z5 z6 z7 z8 z9) y0).kids.length≤8∧(be (Node.mk z1 z2 z3 z4 z5 z6 z7 z8 z9) y0).parent≤8∧0≤(be (Node.mk z1 z2 z3 z4 z5 z6 z7 z8 z9) y0).parent):CALL ρ 168 [I z0,bb z1,I z2,L z3,L z4,L z5,I z6,I z7,L z8,L z9,I y0] 1 k_=(fun (n:Node)=>k_ (L (qt z0 n y0))) (Node.mk z1 z2 z3 z4 z5 z6 z7 z8 z9):=vM (F:=iv) rfl (fun _=>rfl) (z0,(Node.mk z1 z2 z3 z4 z5 z6 z7 z8 z9),y0) h rfl
def cN:=by
 have h:=ba fun c  self=>cD fun n k_=>CE eQ 54 1 rfl (fun _=>rfl) (c,self,n) k_ trivial rfl
 simp only[eQ,RR,ah,ai] at h
 exact h
theorem Ip{z0 z1 z2 z3 z4 z5 z6 z7:Int}{z8:Bool}{z9:Int}{y0:List Peer}{y1:List Topic}{y2:List Call}{y3 y4:Int}{y5:List Mark}{y6:List Mark2}{y7 y8:Int}{k_:PV→PV→PV→PV→PV→PV→PV→PV→PV→PV→PV→PV→Prop}:CALL ρ 51 [I z0,I z1,I z2,I z3,I z4,I z5,I z6,I z7,bb z8,I z9,L y0,L y1,L y2,I y3,I y4,L y5,L y6,I y7,I y8] 12 k_=(fun (c:Config) (n:Node)=>k_ (bb (aT c z7 n y7 y8).1.up) (I (aT c z7 n y7 y8).1.inc) (L (aT c z7 n y7 y8).1.peers) (L (aT c z7 n y7 y8).1.topics) (L (aT c z7 n y7 y8).1.calls) (I (aT c z7 n y7 y8).1.pubs) (I (aT c z7 n y7 y8).1.asks) (L (aT c z7 n y7 y8).1.marks) (L (aT c z7 n y7 y8).1.taken) (L (aT c z7 n y7 y8).2.1) (I (aT c z7 n y7 y8).2.2.1) (I (aT c z7 n y7 y8).2.2.2)) (Config.mk z0 z1 z2 z3 z4 z5 z6) (Node.mk z8 z9 y0 y1 y2 y3 y4 y5 y6):=vM (F:=iU) rfl (fun _=>rfl) ((Config.mk z0 z1 z2 z3 z4 z5 z6),z7,(Node.mk z8 z9 y0 y1 y2 y3 y4 y5 y6),y7,y8) trivial rfl
def Nv:=by
 have h:=vd fun m k_=>CE ly 155 1 rfl (fun _=>rfl) m k_ trivial rfl
 simp only[ly,RR,ah,ai] at h
 exact h
def xp:=by
 have h:=fun l k_=>CE gm 198 1 rfl (fun _=>rfl) l k_ trivial rfl
 simp only[gm,RR,ah,ai] at h
 exact h
def Px:=by
 have h:=fun l k_=>CE lz 195 1 rfl (fun _=>rfl) l k_ trivial rfl
 simp only[lz,RR,ah,ai] at h
 exact h
def Le:=by
 have h:=vd fun m k_=>CE ko 196 1 rfl (fun _=>rfl) m k_ trivial rfl
 simp only[ko,RR,ah,ai] at h
 exact h
def Lf:=by
 have h:=vd fun m k_=>CE kp 197 1 rfl (fun _=>rfl) m k_ trivial rfl
 simp only[kp,RR,ah,ai] at h
 exact h
theorem sH{l:List Int}{n:Int}(h:l=[]∧0≤n∧n≤1000000):gX [L l,I n]=some [L l]:=lR (a:=(l,n)) (by rintro ⟨_,_⟩ ⟨_,_⟩ h;simpa[fk,vb] using h) h
theorem bP{l:List Int}{n:Int}{k_:PV→Prop}(h:l=[]∧0≤n∧n≤1000000):CALL ρ 237 [L l,I n] 1 k_=k_ (L l):=lS (ρ:=ρ) (K:=237) (m:=1) (k:=k_) (sH h) rfl
def qz:=by
 have h:=fun ls k_ h_=>CE bf 199 1 rfl (fun _=>rfl) ls k_ h_ rfl
 simp only[bf,RR,ah,ai] at h
 exact h
def Nw:=by
 have h:=vd fun m k_=>CE jQ 154 17 rfl (fun _=>rfl) m k_ trivial rfl
 simp only[jQ,RR,ah,ai] at h
 exact h
def Lg:=by
 have h:=vd fun m k_=>CE iw 88 1 rfl (fun _=>rfl) m k_ trivial rfl
 simp only[iw,RR,ah,ai] at h
 exact h
def Lh:=by
 have h:=fun l  n k_=>CE ix 120 1 rfl (fun _=>rfl) (l,n) k_ trivial rfl
 simp only[ix,RR,ah,ai] at h
 exact h
def BU:=by
 have h:=fun l k_=>CE dC 125 1 rfl (fun _=>rfl) l k_ trivial rfl
 simp only[dC,RR,ah,ai] at h
 exact h
def Et:=by
 have h:=fun l k_=>CE eR 124 1 rfl (fun _=>rfl) l k_ trivial rfl
 simp only[eR,RR,ah,ai] at h
 exact h
def Eu:=by
 have h:=fun n k_=>CE gO 122 1 rfl (fun _=>rfl) n k_ trivial rfl
 simp only[gO,RR,ah,ai] at h
 exact h
def BV:=by
 have h:=dh fun x k_=>CE fx 119 1 rfl (fun _=>rfl) x k_ trivial rfl
 simp only[fx,RR,ah,ai] at h
 exact h
def xq:=by
 have h:=fun l  self k_ h_=>CE ec 110 1 rfl (fun _=>rfl) (l,self) k_ h_ rfl
 simp only[ec,RR,ah,ai] at h
 exact h
def zx:=by
 have h:=fun l  limit=>qZ fun x k_ h_=>CE iy 226 2 rfl (fun _=>rfl) (l,limit,x) k_ h_ rfl
 simp only[iy,RR,ah,ai] at h
 exact h
def oK:=by
 have h:=vd fun a=>vd fun b k_=>CE iz 61 1 rfl (fun _=>rfl) (a,b) k_ trivial rfl
 simp only[iz,RR,ah,ai] at h
 exact h
def Iq:=by
 have h:=fun a  b k_=>CE gn 26 1 rfl (fun _=>rfl) (a,b) k_ trivial rfl
 simp only[gn,RR,ah,ai] at h
 exact h
def Li:=by
 have h:=vd fun m k_ h_=>CE iA 66 1 rfl (fun _=>rfl) m k_ h_ rfl
 simp only[iA,RR,ah,ai] at h
 exact h
def Ev:=by
 have h:=ba fun c  self=>cD fun n  t  value k_ h_=>CE eS 27 12 rfl (fun _=>rfl) (c,self,n,t,value) k_ h_ rfl
 simp only[eS,RR,ah,ai] at h
 exact h
def Ir:=by
 have h:=fun n  top k_ h_=>CE iV 150 2 rfl (fun _=>rfl) (n,top) k_ h_ rfl
 simp only[iV,RR,ah,ai] at h
 exact h
def xr:=by
 have h:=fun n  top k_ h_=>CE cZ 175 1 rfl (fun _=>rfl) (n,top) k_ h_ rfl
 simp only[cZ,RR,ah,ai] at h
 exact h
def xt:=by
 have h:=fun e  n k_=>CE iW 151 5 rfl (fun _=>rfl) (e,n) k_ trivial rfl
 simp only[iW,RR,ah,ai] at h
 exact h
def vk:=by
 have h:=fun epoch  n k_=>CE gP 177 5 rfl (fun _=>rfl) (epoch,n) k_ trivial rfl
 simp only[gP,RR,ah,ai] at h
 exact h
def Is:=by
 have h:=dh fun x k_ h_=>CE iX 176 16 rfl (fun _=>rfl) x k_ h_ rfl
 simp only[iX,RR,ah,ai] at h
 exact h
def Ew:=by
 have h:=ba fun c  t  self=>dh fun x k_ h_=>CE eT 83 17 rfl (fun _=>rfl) (c,t,self,x) k_ h_ rfl
 simp only[eT,RR,ah,ai] at h
 exact h
def BW:=by
 have h:=fun self=>dh fun x k_ h_=>CE dD 112 17 rfl (fun _=>rfl) (self,x) k_ h_ rfl
 simp only[dD,RR,ah,ai] at h
 exact h
def zX:=by
 have h:=vd fun m k_ h_=>CE dV 64 16 rfl (fun _=>rfl) m k_ h_ rfl
 simp only[dV,RR,ah,ai] at h
 exact h
def Nx:=by
 have h:=vd fun m k_ h_=>CE lA 87 16 rfl (fun _=>rfl) m k_ h_ rfl
 simp only[lA,RR,ah,ai] at h
 exact h
def zy:=by
 have h:=fun self=>cD fun n  l k_ h_=>CE iB 37 2 rfl (fun _=>rfl) (self,n,l) k_ h_ rfl
 simp only[iB,RR,ah,ai] at h
 exact h
def vm:=by
 have h:=fun self=>cD fun n  l k_ h_=>CE eU 28 2 rfl (fun _=>rfl) (self,n,l) k_ h_ rfl
 simp only[eU,RR,ah,ai] at h
 exact h
def Ey:=by
 have h:=fun self=>cD fun n  l k_ h_=>CE eV 59 1 rfl (fun _=>rfl) (self,n,l) k_ h_ rfl
 simp only[eV,RR,ah,ai] at h
 exact h
def oL:=by
 have h:=cD fun n k_ h_=>CE iC 32 9 rfl (fun _=>rfl) n k_ h_ rfl
 simp only[iC,RR,ah,ai] at h
 exact h
def Lj:=by
 have h:=fun l  want  limit  value k_ h_=>CE iD 205 2 rfl (fun _=>rfl) (l,want,limit,value) k_ h_ rfl
 simp only[iD,RR,ah,ai] at h
 exact h
def It:=by
 have h:=fun l  want k_ h_=>CE go 207 2 rfl (fun _=>rfl) (l,want) k_ h_ rfl
 simp only[go,RR,ah,ai] at h
 exact h
def Lk:=by
 have h:=ba fun c=>il fun s  sub  q  at_=>QJ fun x k_ h_=>CE iE 93 8 rfl (fun _=>rfl) (c,s,sub,q,at_,x) k_ h_ rfl
 simp only[iE,RR,ah,ai] at h
 exact h
def Ll:=by
 have h:=fun t=>dh fun x  on k_ h_=>CE iF 94 1 rfl (fun _=>rfl) (t,x,on) k_ h_ rfl
 simp only[iF,RR,ah,ai] at h
 exact h
def Ez:=by
 have h:=ba fun c  t  self=>dh fun x  value k_ h_=>CE eW 45 18 rfl (fun _=>rfl) (c,t,self,x,value) k_ h_ rfl
 simp only[eW,RR,ah,ai] at h
 exact h
def Lm:=by
 have h:=fun self=>cD fun n  t k_ h_=>CE iG 44 1 rfl (fun _=>rfl) (self,n,t) k_ h_ rfl
 simp only[iG,RR,ah,ai] at h
 exact h
def Iu:=by
 have h:=fun l k_ h_=>CE gp 47 8 rfl (fun _=>rfl) l k_ h_ rfl
 simp only[gp,RR,ah,ai] at h
 exact h
def lX:=by
 have h:=ba fun c  self=>cD fun n  t k_ h_=>CE eX 40 1 rfl (fun _=>rfl) (c,self,n,t) k_ h_ rfl
 simp only[eX,RR,ah,ai] at h
 exact h
def nb:=by
 have h:=ba fun c  self=>cD fun n  t k_ h_=>CE gr 42 1 rfl (fun _=>rfl) (c,self,n,t) k_ h_ rfl
 simp only[gr,RR,ah,ai] at h
 exact h
def nV:=by
 have h:=ba fun c  self=>cD fun n  t k_ h_=>CE cV 13 10 rfl (fun _=>rfl) (c,self,n,t) k_ h_ rfl
 simp only[cV,RR,ah,ai] at h
 exact h
def xu:=by
 have h:=ba fun c  self=>cD fun n  t  sub  why k_ h_=>CE gt 41 10 rfl (fun _=>rfl) (c,self,n,t,sub,why) k_ h_ rfl
 simp only[gt,RR,ah,ai] at h
 exact h
def kO:=by
 have h:=ba fun c  self=>cD fun n  t k_ h_=>CE bz 14 10 rfl (fun _=>rfl) (c,self,n,t) k_ h_ rfl
 simp only[bz,RR,ah,ai] at h
 exact h
def uQ:=by
 have h:=ba fun c  self=>cD fun n  t k_ h_=>CE bO 20 10 rfl (fun _=>rfl) (c,self,n,t) k_ h_ rfl
 simp only[bO,RR,ah,ai] at h
 exact h
def mD:=by
 have h:=ba fun c  self=>cD fun n  t  value k_ h_=>CE cB 15 12 rfl (fun _=>rfl) (c,self,n,t,value) k_ h_ rfl
 simp only[cB,RR,ah,ai] at h
 exact h
def zY:=by
 have h:=ba fun c  self=>cD fun n  t  value k_ h_=>CE de 21 12 rfl (fun _=>rfl) (c,self,n,t,value) k_ h_ rfl
 simp only[de,RR,ah,ai] at h
 exact h
def rh:=by
 have h:=ba fun c  self=>cD fun n  t k_ h_=>CE dj 16 16 rfl (fun _=>rfl) (c,self,n,t) k_ h_ rfl
 simp only[dj,RR,ah,ai] at h
 exact h
def Iv:=by
 have h:=fun l  want  limit  value k_ h_=>CE gu 224 1 rfl (fun _=>rfl) (l,want,limit,value) k_ h_ rfl
 simp only[gu,RR,ah,ai] at h
 exact h
def Ln:=by
 have h:=fun l  limit=>qZ fun x k_ h_=>CE iH 225 1 rfl (fun _=>rfl) (l,limit,x) k_ h_ rfl
 simp only[iH,RR,ah,ai] at h
 exact h
def Iw:=by
 have h:=ba fun c=>il fun s  sub  q  epoch=>QJ fun x k_ h_=>CE gv 113 7 rfl (fun _=>rfl) (c,s,sub,q,epoch,x) k_ h_ rfl
 simp only[gv,RR,ah,ai] at h
 exact h
def EA:=by
 have h:=fun t=>dh fun x  on k_ h_=>CE eY 114 1 rfl (fun _=>rfl) (t,x,on) k_ h_ rfl
 simp only[eY,RR,ah,ai] at h
 exact h
def BX:=by
 have h:=ba fun c  t  self=>dh fun x  value k_ h_=>CE dE 58 18 rfl (fun _=>rfl) (c,t,self,x,value) k_ h_ rfl
 simp only[dE,RR,ah,ai] at h
 exact h
def zZ:=by
 have h:=ba fun c  self=>cD fun n  t  value k_ h_=>CE df 25 12 rfl (fun _=>rfl) (c,self,n,t,value) k_ h_ rfl
 simp only[df,RR,ah,ai] at h
 exact h
theorem vn  {k_:PV→Prop}:CALL ρ 17 [] 1 k_=k_ (bb true):=Nd (F:=jw) rfl (fun _ _ _=>rfl) () trivial rfl
def EB:=by
 have h:=ba fun c  self=>cD fun n  t  made k_ h_=>CE eZ 23 1 rfl (fun _=>rfl) (c,self,n,t,made) k_ h_ rfl
 simp only[eZ,RR,ah,ai] at h
 exact h
theorem Ny{z0 z1 z2:Int}:nP [I z0,I z1,I z2]=some [bb true]:=Qu (F:=dF) (a:=(z0,z1,z2)) (fun _=>rfl) trivial
theorem Nz{z0 z1 z2 z3 z4 z5 z6 z7:Int}{z8:Bool}{z9:Int}{y0:List Peer}{y1:List Topic}{y2:List Call}{y3 y4:Int}{y5:List Mark}{y6:List Mark2}{y7 y8:Int}:nQ [I z0,I z1,I z2,I z3,I z4,I z5,I z6,I z7,bb z8,I z9,L y0,L y1,L y2,I y3,I y4,L y5,L y6,I y7,I y8]=some [bb true]:=Qu (F:=cJ) (a:=((Config.mk z0 z1 z2 z3 z4 z5 z6),z7,(Node.mk z8 z9 y0 y1 y2 y3 y4 y5 y6),y7,y8)) (fun _=>rfl) trivial
theorem Lo{l:List Item}{want window x_seq x_value:Int}(h:False):oG [L l,I want,I window,I x_seq,I x_value]=some [L l,I 0]:=lR (a:=(l,want,window,x_seq,x_value)) (by rintro ⟨_,_,_,_,_⟩ ⟨_,_,_,_,_⟩ h;simpa[fk,vb] using h) h
theorem Lp{l:List Item}{want window x_seq x_value:Int}{k_:PV→PV→Prop}(h:False):CALL ρ 163 [L l,I want,I window,I x_seq,I x_value] 2 k_=k_ (L l) (I 0):=lS (ρ:=ρ) (K:=163) (m:=2) (k:=k_) (Lo h) rfl
theorem Lq{l:List Item}{want window x_seq x_value:Int}(h:False):oH [L l,I want,I window,I x_seq,I x_value]=some [L l,I 0]:=lR (a:=(l,want,window,x_seq,x_value)) (by rintro ⟨_,_,_,_,_⟩ ⟨_,_,_,_,_⟩ h;simpa[fk,vb] using h) h
theorem Lr{l:List Item}{want window x_seq x_value:Int}{k_:PV→PV→Prop}(h:False):CALL ρ 179 [L l,I want,I window,I x_seq,I x_value] 2 k_=k_ (L l) (I 0):=lS (ρ:=ρ) (K:=179) (m:=2) (k:=k_) (Lq h) rfl
end Go.Xt
