/- Steps towards the statements of this seat; the conditions stand in each theorem. -/
import Derived.Test.YtjolhiejojfkkaaGreatDoorSpecs
set_option maxRecDepth 100000
set_option linter.unusedVariables false
set_option linter.unusedSimpArgs false
namespace Go.Xt
set_option linter.defProp false
def nY:Int→Prop×List PV×List PV:=mkF fun n=>(True,[bb (isN n)])
def kJ:Int→Prop×List PV×List PV:=mkF fun n=>(True,[I (if isN n=true then nn n else 0),I (if isN n=true then 0 else 1)])
def jl:Int→Prop×List PV×List PV:=mkF fun t=>(True,[I (if isT t=true then tt t else 0),I (if isT t=true then 0 else 1)])
def nZ:Int×Int→Prop×List PV×List PV:=mkF fun (k,n)=>(0≤k∧k<4611686018427387904∧0≤n∧n<4611686018427387904,[I (far k n)])
def lq:Int→Prop×List PV×List PV:=mkF fun n=>(isN n=true,[I (nn n)])
def jR:Int→Prop×List PV×List PV:=mkF fun t=>(isT t=true,[I (tt t)])
def iI:Int×Int→Prop×List PV×List PV:=mkF fun (k,n)=>(0≤k∧k<4611686018427387904∧0≤n∧n<4611686018427387904,[I (far k n)])
def ma:Int×Int→Prop×List PV×List PV:=mkF fun (t,n)=>(True,[I (if (isT t&&isN n)=true then gap t n else 0),I (if (isT t&&isN n)=true then 0 else 1)])
def gW:Int×Int×Int→Prop×List PV×List PV:=mkF fun (t,a,b)=>(True,[bb (fD t a b)])
def ej:Int→Prop×List PV×List PV:=mkF fun t=>(True,[bb (isT t)])
def fH:Int→Prop×List PV×List PV:=mkF fun n=>(True,[bb (isN n)])
def mY:Int×Int→Prop×List PV×List PV:=mkF fun (t,n)=>(isT t=true∧isN n=true,[I (gap t n)])
def fI:Int×Int×Int→Prop×List PV×List PV:=mkF fun (t,a,b)=>(True,[bb (fD t a b)])
def kq:(List Int)→Prop×List PV×List PV:=mkF fun l=>(True,[bb (l.all isN)])
def fY:Int×Int×(List Int)→Prop×List PV×List PV:=mkF fun (t,self,l)=>(True,[bb (pi t self l)])
def fZ:Int×Int×(List Int)×Int→Prop×List PV×List PV:=mkF fun (t,self,l,depth)=>(True,[I (chk t self l depth)])
def dG:(List Int)→Prop×List PV×List PV:=mkF fun l=>(l.length≤1000000,[L l])
def ga:(List Int)×(List Int)→Prop×List PV×List PV:=mkF fun (a,b)=>(True,[bb (decide (a=b))])
def gc:Int×Int×(List Int)×Int→Prop×List PV×List PV:=mkF fun (t,self,l,depth)=>(isT t=true∧isN self=true,[I (PS t self l depth)])
def bm:(List Int)×Int→Prop×List PV×List PV:=mkF fun (l,n)=>(True,[bb (l.contains n)])
noncomputable def iw:List PV→Option (List PV):=qU (fun (l:(List Int))=>l.length<4611686018427387904) (fun (l:(List Int))=>[L l]) (fun (l:(List Int))=>[L (nc l)])
noncomputable def eJ:List PV→Option (List PV):=qU (fun (l:(List Int))=>l.length<4611686018427387904) (fun (l:(List Int))=>[L l]) (fun (l:(List Int))=>[L (bK l)])
def qZ:Int→Prop×List PV×List PV:=mkF fun k=>(True,[bb (isK k)])
def mb:Int×Int→Prop×List PV×List PV:=mkF fun (k,bits)=>(True,[I (if (isK k&&decide (0≤bits)&&decide (bits≤61))=true then far (2 ^ bits.toNat) k else 0),I (if (isK k&&decide (0≤bits)&&decide (bits≤61))=true then 0 else 1)])
def gd:Int×(List Int)→Prop×List PV×List PV:=mkF fun (t,l)=>(True,[I (Ac t l).1,I (Ac t l).2])
def eK:(List Int)×Int→Prop×List PV×List PV:=mkF fun (live,self)=>(True,[I (AJ live self)])
def eM:(List Int)×Int→Prop×List PV×List PV:=mkF fun (live,k)=>(live.all isN=true∧0≤k∧k<4611686018427387904,[I (pH live k)])
def eN:(List Int)×Int→Prop×List PV×List PV:=mkF fun (live,self)=>(live.all isN=true∧isN self=true,[I (kn live self)])
def du:(List Int)×Int→Prop×List PV×List PV:=mkF fun (live,self)=>(live.all isN=true∧isN self=true∧live≠[],[L (iA live self)])
def ge:Int×(List Int)×Int→Prop×List PV×List PV:=mkF fun (t,live,self)=>(live.all isN=true∧isN self=true∧live≠[],[I (iG t live self)])
def eO:Int×(List Int)×Int→Prop×List PV×List PV:=mkF fun (t,live,self)=>(True,[I (u6 t live self)])
def gf:Int×(List Int)×Int→Prop×List PV×List PV:=mkF fun (t,live,self)=>(True,[I (if u6 t live self=0 then max (iG t live self) 0 else 0),bb (decide (u6 t live self=0)&&decide (0≤iG t live self)),I (u6 t live self)])
def fJ:Int×Int→Prop×List PV×List PV:=mkF fun (n,self)=>(isN n=true∧isN self=true,[I (far (nn n) (nn self))])
def eP:(List Int)×Int→Prop×List PV×List PV:=mkF fun (live,self)=>(live.all isN=true∧isN self=true,[I (kn live self)])
def dv:(List Int)×Int→Prop×List PV×List PV:=mkF fun (live,self)=>(live.all isN=true∧isN self=true∧live≠[],[L (iA live self)])
def eQ:Int×(List Int)→Prop×List PV×List PV:=mkF fun (t,l)=>(isT t=true∧l.all isN=true,[I (wD t l)])
def gg:Int×(List Int)×Int→Prop×List PV×List PV:=mkF fun (t,live,self)=>(isT t=true∧AJ live self=0,[I (iG t live self)])
noncomputable def om:List PV→Option (List PV):=qU (fun (_:ByteArray×Int×Int×Int×Int)=>True) (fun (((s,n,lo,hi,why)):ByteArray×Int×Int×Int×Int)=>[.str s,I n,I lo,I hi,I why]) (fun (((s,n,lo,hi,why)):ByteArray×Int×Int×Int×Int)=>[E ⟨false,if n<lo∨hi<n then [why] else []⟩])
noncomputable def pK:List PV→Option (List PV):=qU (fun (xs:(List Er))=>xs≠[]∧xs.length≤1000∧ ∀x∈xs,x.j=false) (fun (xs:(List Er))=>[L xs]) (fun (xs:(List Er))=>[E ⟨true,xs.flatMap (·.l)⟩])
noncomputable def oo:List PV→Option (List PV):=qU (fun (x:Er)=>x.l.length≤1000) (fun (x:Er)=>[E x]) (fun (x:Er)=>[I (jk x.l)])
def ek:Config→Prop×List PV×List PV:=mkF fun c=>(True,[E ⟨true,pk c⟩])
def eo:Config→Prop×List PV×List PV:=mkF fun c=>(True,[I (if bx c=true then 0 else 13)])
def mc:Int×Int×Int→Prop×List PV×List PV:=mkF fun (n,lo,hi)=>(True,[bb (decide (lo≤n)&&decide (n≤hi))])
def fK:Config→Prop×List PV×List PV:=mkF fun c=>(True,[bb (bx c)])
def gX:Int→Prop×List PV×List PV:=mkF fun e=>(True,[I (if ep e=true then 0 else 1)])
def kK:Int→Prop×List PV×List PV:=mkF fun e=>(True,[I (if ep e=true then e % 16 else 0),I (if ep e=true then 0 else 1)])
def ra:Int×Int×Int→Prop×List PV×List PV:=mkF fun (n,lo,hi)=>(True,[bb (rng n lo hi)])
def gY:Int→Prop×List PV×List PV:=mkF fun n=>(True,[bb (cnt n)])
def kL:Int→Prop×List PV×List PV:=mkF fun n=>(True,[bb (val n)])
def o0:Int×Int×Int→Prop×List PV×List PV:=mkF fun (n,lo,hi)=>(True,[bb (rng n lo hi)])
def md:Int×Int×Int→Prop×List PV×List PV:=mkF fun (n,lo,hi)=>(True,[bb (rng n lo hi)])
def mf:Int×Int×Int→Prop×List PV×List PV:=mkF fun (n,lo,hi)=>(True,[bb (rng n lo hi)])
def gZ:Int→Prop×List PV×List PV:=mkF fun n=>(True,[bb (val n)])
def hU:Int→Prop×List PV×List PV:=mkF fun n=>(True,[bb (cnt n)])
def hZ:Int→Prop×List PV×List PV:=mkF fun e=>(True,[bb (ep e)])
def jm:Peer→Prop×List PV×List PV:=mkF fun p=>(True,[bb (og p)])
def gh:(List Peer)→Prop×List PV×List PV:=mkF fun l=>(True,[I (if bB l=true then 0 else 1)])
def eR:(List Peer)→Prop×List PV×List PV:=mkF fun l=>(True,[bb (bB l)])
def jn:Int×Int×Kid→Prop×List PV×List PV:=mkF fun (t,self,k)=>(True,[bb (fD t self k.node&&cnt k.inc&&rng k.age 0 6)])
def gi:Int×Int×Int×(List Kid)→Prop×List PV×List PV:=mkF fun (t,self,limit,l)=>(True,[I (if ko t self limit l=true then 0 else 1)])
def gj:Int×Int×Int×(List Kid)→Prop×List PV×List PV:=mkF fun (t,self,limit,l)=>(True,[bb (ko t self limit l)])
def gk:(List Item)×Int→Prop×List PV×List PV:=mkF fun (l,want)=>(cnt want=true∧l.length≤16,[bb (decide (l.length<want)&&dJ (want-l.length) l)])
def gl:(List Item)×Int×Int→Prop×List PV×List PV:=mkF fun (l,want,limit)=>(True,[I (if fX l want limit=true then 0 else 1)])
def gm:(List Item)×Int×Int→Prop×List PV×List PV:=mkF fun (l,want,limit)=>(True,[bb (fX l want limit)])
def jp:Int×Int×Int→Prop×List PV×List PV:=mkF fun (seq,want,window)=>(cnt want=true∧rng window 1 16=true,[bb (decide (want<seq)&&decide (seq<want+window)&&decide (seq<1073741824))])
def eS:(List Item)×Int×Int→Prop×List PV×List PV:=mkF fun (l,want,window)=>(True,[I (if mJ l want window=true then 0 else 1)])
def dM:(List Item)×Int×Int→Prop×List PV×List PV:=mkF fun (l,want,window)=>(True,[bb (mJ l want window)])
def ib:Event→Prop×List PV×List PV:=mkF fun x=>(True,[I (if ec x=true then 0 else 1)])
def ic:Event→Prop×List PV×List PV:=mkF fun x=>(True,[bb (ec x)])
def eT:(List Event)×Int→Prop×List PV×List PV:=mkF fun (l,limit)=>(True,[I (if bh l limit=true then 0 else 1)])
def eU:(List Event)×Int→Prop×List PV×List PV:=mkF fun (l,limit)=>(True,[bb (bh l limit)])
def kM:Stream→Prop×List PV×List PV:=mkF fun s=>(True,[bb (nI s)])
def gn:Config×Stream→Prop×List PV×List PV:=mkF fun (c,s)=>(True,[bb (jN c s)])
def go:Config×Stream×(List Event)→Prop×List PV×List PV:=mkF fun (c,s,q)=>(True,[I (if bx c=true then (if dK c s q=true then 0 else 1) else 13)])
def dN:Config×Stream→Prop×List PV×List PV:=mkF fun (c,s)=>(True,[bb (jN c s)])
def gp:Config×Stream×(List Event)→Prop×List PV×List PV:=mkF fun (c,s,q)=>(True,[bb (dK c s q)])
def gr:Int×Int×Int→Prop×List PV×List PV:=mkF fun (t,self,n)=>(True,[bb (iu t self n)])
def gt:Int×Int×Int→Prop×List PV×List PV:=mkF fun (t,self,n)=>(True,[bb (iu t self n)])
def fL:Int×Topic→Prop×List PV×List PV:=mkF fun (self,x)=>(True,[bb (lY self x)])
def dO:Topic→Prop×List PV×List PV:=mkF fun x=>(0≤x.parent∧x.parent≤8,[bb (mW x)])
def eV:Config×Int×Int×Topic→Prop×List PV×List PV:=mkF fun (c,t,self,x)=>(bx c=true,[bb (aM c t self x)])
def eW:Config×Int×Int×Topic→Prop×List PV×List PV:=mkF fun (c,t,self,x)=>(True,[I (if bx c=true then (if (jO c t self&&aM c t self x)=true then 0 else 1) else 13)])
def eX:Config×Int×Int×Topic→Prop×List PV×List PV:=mkF fun (c,t,self,x)=>(bx c=true∧jO c t self=true,[bb (aM c t self x)])
def gu:Config×Node→Prop×List PV×List PV:=mkF fun (c,n)=>(bx c=true,[bb (bM c n.asks 0 n.calls&&decide (n.calls.length≤40))])
def kN:Mark→Prop×List PV×List PV:=mkF fun m=>(True,[bb (fE m)])
def jq:Config×Mark2→Prop×List PV×List PV:=mkF fun (c,x)=>(bx c=true,[bb (mL c x)])
def gv:Config×Int×Node→Prop×List PV×List PV:=mkF fun (c,self,n)=>(bx c=true∧rng self 0 (c.nodes-1)=true,[bb (nd c self n)])
def gw:Config×Int×Node→Prop×List PV×List PV:=mkF fun (c,self,n)=>(True,[I (ax c self n)])
def gx:Config×Int×Node→Prop×List PV×List PV:=mkF fun (c,self,n)=>(bx c=true∧rng self 0 (c.nodes-1)=true,[bb (nd c self n)])
def eY:(List Peer)×(List Peer)→Prop×List PV×List PV:=mkF fun (a,b)=>(True,[bb (decide (a=b))])
def gy:(List Kid)×(List Kid)→Prop×List PV×List PV:=mkF fun (a,b)=>(True,[bb (decide (a=b))])
def eZ:(List Item)×(List Item)→Prop×List PV×List PV:=mkF fun (a,b)=>(True,[bb (decide (a=b))])
def dP:(List Event)×(List Event)→Prop×List PV×List PV:=mkF fun (a,b)=>(True,[bb (decide (a=b))])
def dQ:Stream×Stream→Prop×List PV×List PV:=mkF fun (a,b)=>(True,[bb (decide (a=b))])
def fa:Topic×Topic→Prop×List PV×List PV:=mkF fun (a,b)=>(True,[bb (decide (a=b))])
def gz:Node×Node→Prop×List PV×List PV:=mkF fun (a,b)=>(True,[bb (decide (a=b))])
def cT:(List Kid)→Prop×List PV×List PV:=mkF fun l=>(l.length≤1000000,[L l])
def cz:(List Item)→Prop×List PV×List PV:=mkF fun l=>(l.length≤1000000,[L l])
def cf:(List Event)→Prop×List PV×List PV:=mkF fun l=>(l.length≤1000000,[L l])
def cA:(List Peer)→Prop×List PV×List PV:=mkF fun l=>(l.length≤1000000,[L l])
def cV:Stream→Prop×List PV×List PV:=mkF fun s=>(s.kept.length≤1000000∧s.ahead.length≤1000000,Row.row s)
def dm:Topic→Prop×List PV×List PV:=mkF fun x=>(cv x=false,Row.row x)
def cW:Node→Prop×List PV×List PV:=mkF fun n=>(aA n=false,Row.row n)
def fc:Stream×(List Event)→Prop×List PV×List PV:=mkF fun (s,q)=>(True,[bb (xW s q)])
noncomputable def EB:=fnT fc
def fe:Topic→Prop×List PV×List PV:=mkF fun x=>(True,[bb (cv x)])
noncomputable def EC:=fnT fe
def fg:Node→Prop×List PV×List PV:=mkF fun n=>(True,[bb (aA n)])
noncomputable def ED:=fnT fg
def lr:Unit→Prop×List PV×List PV:=fun _=>(True,[],[I 8,I 4,I 2,I 8,I 8,I 8,I 16])
noncomputable def Is:=fnT lr
def aS:(List Peer)→Prop×List PV×List PV:=mkF fun l=>(l.length≤1000000,[L l])
def aT:(List Call)→Prop×List PV×List PV:=mkF fun l=>(l.length≤1000000,[L l])
def aU:(List Mark)→Prop×List PV×List PV:=mkF fun l=>(l.length≤1000000,[L l])
def aI:(List Mark2)→Prop×List PV×List PV:=mkF fun l=>(l.length≤1000000,[L l])
def aX:(List Kid)→Prop×List PV×List PV:=mkF fun l=>(l.length≤1000000,[L l])
def aJ:(List Event)→Prop×List PV×List PV:=mkF fun l=>(l.length≤1000000,[L l])
def aV:(List Item)→Prop×List PV×List PV:=mkF fun l=>(l.length≤1000000,[L l])
def bw:(List Int)→Prop×List PV×List PV:=mkF fun l=>(l.length≤1000000,[L l])
noncomputable def cq:List PV→Option (List PV):=qU (fun (((l,i,j)):(List Call)×Int×Int)=>0≤i∧i≤j∧j≤l.length∧l.length<4611686018427387904) (fun (((l,i,j)):(List Call)×Int×Int)=>[L l,I i,I j]) (fun (((l,i,j)):(List Call)×Int×Int)=>[L (tp l i.toNat j.toNat)])
def kO:Topic→Prop×List PV×List PV:=mkF fun x=>(True,[bb (oh x)])
def jr:Topic→Prop×List PV×List PV:=mkF fun x=>(cv x=false,Row.row x)
def kP:Event→Prop×List PV×List PV:=mkF fun x=>(True,Row.row (nJ x)++[bb (df x)])
def iJ:(List Event)×Int×Event→Prop×List PV×List PV:=mkF fun (l,limit,x)=>(True,[L (wE l limit x).1,I (wE l limit x).2])
def iK:(List Event)×Int×Event→Prop×List PV×List PV:=mkF fun (l,limit,x)=>(l.length≤1000000,[L (tq l limit x)])
def iL:Node×Int→Prop×List PV×List PV:=mkF fun (n,o)=>(True,[bb (oY n o)])
def gA:(List Peer)×Int→Prop×List PV×List PV:=mkF fun (l,n)=>(True,[I (pI l n)])
def fV:(List Peer)×Int→Prop×List PV×List PV:=mkF fun (l,self)=>(True,[L (if pI l self=0 then iC l self else []),I (pI l self)])
def iM:Int×Node×Int→Prop×List PV×List PV:=mkF fun (self,n,t)=>(bB n.peers=true∧rng self 0 (n.peers.length-1)=true∧isT t=true,[I (iG t (iC n.peers self) self)])
def iN:Int×Node×Int→Prop×List PV×List PV:=mkF fun (self,n,t)=>(bB n.peers=true∧rng self 0 (n.peers.length-1)=true∧isT t=true∧t<n.topics.length∧(bi n t).kids.length≤8∧(bi n t).parent≤8∧0≤(bi n t).parent,[L (qW self n t)])
def fh:Config×Int×Node→Prop×List PV×List PV:=mkF fun (c,self,n)=>(True,[I (ax c self n)])
def js:Config×Int×Node×Int×Int→Prop×List PV×List PV:=mkF fun (c,self,n,t,value)=>(True,Row.row (aN c self n t value).1++[L (aN c self n t value).2.1,I (aN c self n t value).2.2.1,I (aN c self n t value).2.2.2])
def mg:Msg→Prop×List PV×List PV:=mkF fun m=>(True,[bb (u7 m)])
def gB:(List Int)→Prop×List PV×List PV:=mkF fun l=>(True,[bb (decide l.Nodup)])
def mh:(List Int)→Prop×List PV×List PV:=mkF fun l=>(True,[bb (mX l)])
def kQ:Msg→Prop×List PV×List PV:=mkF fun m=>(True,[bb (u9 m)])
def kR:Msg→Prop×List PV×List PV:=mkF fun m=>(True,[bb (lZ m)])
noncomputable def ix:List PV→Option (List PV):=qU (fun (((l,n)):(List Int)×Int)=>l=[]∧0≤n∧n≤1000000) (fun (((l,n)):(List Int)×Int)=>[L l,I n]) (fun (((l,n)):(List Int)×Int)=>[L l])
def bj:(List (List Int))→Prop×List PV×List PV:=mkF fun ls=>(ls.flatten.length≤1000000,[L ls.flatten])
def kr:Msg→Prop×List PV×List PV:=mkF fun m=>(True,Row.row (kH m).1++[bb (kH m).2])
def iO:Msg→Prop×List PV×List PV:=mkF fun m=>(True,[I (if gR m=true then 0 else 5)])
def iP:(List Int)×Int→Prop×List PV×List PV:=mkF fun (l,n)=>(True,[bb (l.contains n)])
def dR:(List Int)→Prop×List PV×List PV:=mkF fun l=>(True,[bb (decide l.Nodup)])
def fi:(List Int)→Prop×List PV×List PV:=mkF fun l=>(True,[bb (l.all isN&&decide (l.length≤8))])
def ig:Int→Prop×List PV×List PV:=mkF fun n=>(True,[bb (cnt n)])
def fM:Topic→Prop×List PV×List PV:=mkF fun x=>(True,[bb (oh x)])
def ez:(List Peer)×Int→Prop×List PV×List PV:=mkF fun (l,self)=>(l.length≤1000,[L (iC l self)])
def iQ:(List Event)×Int×Event→Prop×List PV×List PV:=mkF fun (l,limit,x)=>((l.length≤1000∧2≤limit∧limit≤32∧(x.kind=3∨x.kind=4))∨(bh l limit=true∧ec x=true),[L (wF l limit x).1,bb (wF l limit x).2])
def iR:Msg×Msg→Prop×List PV×List PV:=mkF fun (a,b)=>(True,[bb (decide (a=b))])
def gC:(List Msg)×(List Msg)→Prop×List PV×List PV:=mkF fun (a,b)=>(True,[bb (decide (a=b))])
def iS:Msg→Prop×List PV×List PV:=mkF fun m=>(m.path.length≤30∧m.todo.length≤30,[bb (gR m)])
def fj:Config×Int×Node×Int×Int→Prop×List PV×List PV:=mkF fun (c,self,n,t,value)=>(ax c self n=0∧rng t 0 (c.topics-1)=true∧val value=true,Row.row (aN c self n t value).1++[L (aN c self n t value).2.1,I (aN c self n t value).2.2.1,I (aN c self n t value).2.2.2])
def jt:Int×Int→Prop×List PV×List PV:=mkF fun (n,top)=>(isN n=true∧0≤top∧top≤1073741824,[I (jP n top),I (if jP n top=0 then 11 else 0)])
def dp:Int×Int→Prop×List PV×List PV:=mkF fun (n,top)=>(isN n=true∧0≤top∧top≤1073741824,[I (jP n top)])
def ju:Int×Int→Prop×List PV×List PV:=mkF fun (e,n)=>(True,Row.row (Ph e n))
def ii:Int×Int→Prop×List PV×List PV:=mkF fun (epoch,n)=>(True,Row.row (Ph epoch n))
def jv:Topic→Prop×List PV×List PV:=mkF fun x=>(cv x=false,Row.row (vM x))
def fk:Config×Int×Int×Topic→Prop×List PV×List PV:=mkF fun (c,t,self,x)=>(ua c t self x=0,Row.row ((ak self x).1)++[I (ak self x).2])
def dS:Int×Topic→Prop×List PV×List PV:=mkF fun (self,x)=>(cv x=false∧isN self=true∧0≤x.top∧x.top≤1073741824,Row.row ((ak self x).1)++[I (ak self x).2])
def er:Msg→Prop×List PV×List PV:=mkF fun m=>(m.path.length≤30∧m.todo.length≤30,Row.row (m))
def mi:Msg→Prop×List PV×List PV:=mkF fun m=>(m.path.length≤30∧m.todo.length≤30,Row.row (m))
def iT:Int×Node×(List Msg)→Prop×List PV×List PV:=mkF fun (self,n,l)=>(l.length≤1000∧n.peers.length≤12∧ ∀m∈l,m.path.length≤30∧m.todo.length≤30,[L (kI self n l),bb (dz self n l).isSome])
def fm:Int×Node×(List Msg)→Prop×List PV×List PV:=mkF fun (self,n,l)=>(l.length≤1000∧n.peers.length≤12∧ ∀m∈l,m.path.length≤30∧m.todo.length≤30,[L (kI self n l),bb (dz self n l).isSome])
def fo:Int×Node×(List Msg)→Prop×List PV×List PV:=mkF fun (self,n,l)=>(l.length≤1000∧n.peers.length≤12∧ ∀m∈l,m.path.length≤30∧m.todo.length≤30,[L (kI self n l)])
def iU:Node→Prop×List PV×List PV:=mkF fun n=>(aA n=false,Row.row (n))
def iV:(List Item)×Int×Int×Int→Prop×List PV×List PV:=mkF fun (l,want,limit,value)=>(fX l want limit=true∧val value=true∧want<1073741824,[L (qX l want limit value),I 0])
def gD:(List Item)×Int→Prop×List PV×List PV:=mkF fun (l,want)=>(l.length≤1000∧0≤want∧want≤1073741824∧ ∀x∈l,want≤x.seq∧x.seq≤1073741824,[L (bu l want),L (qY l want)])
def iW:Config×Stream×Bool×(List Event)×Int×Item→Prop×List PV×List PV:=mkF fun (c,s,sub,q,at_,x)=>(bx c=true∧dK c s q=true∧at_=s.epoch∧ep at_=true∧x.seq=s.want∧s.want<1073741823∧val x.value=true,Row.row ((ce c s sub q x.value).1)++[L (ce c s sub q x.value).2.1,L (ce c s sub q x.value).2.2,I 0])
def iX:Int×Topic×(List Item)→Prop×List PV×List PV:=mkF fun (t,x,on)=>(on.length≤1000∧x.kids.length≤1000,[L (jQ t x on)])
def fp:Config×Int×Int×Topic×Int→Prop×List PV×List PV:=mkF fun (c,t,self,x,value)=>(ua c t self x=0∧val value=true,Row.row ((au c t self x value).1)++[L (au c t self x value).2.1,I (au c t self x value).2.2])
def iY:Int×Node×Int→Prop×List PV×List PV:=mkF fun (self,n,t)=>(bB n.peers=true∧rng self 0 (n.peers.length-1)=true∧isT t=true,[bb (Gz self t (iC n.peers self))])
def gE:(List Event)→Prop×List PV×List PV:=mkF fun l=>(l.length≤1000000,Row.row (l.headD cx)++[L l.tail,I (if l.length=0 then 10 else 0)])
def fq:Config×Int×Node×Int→Prop×List PV×List PV:=mkF fun (c,self,n,t)=>(aA n=false,[I (bt c self n t)])
def gF:Config×Int×Node×Int→Prop×List PV×List PV:=mkF fun (c,self,n,t)=>(aA n=false,[I (aH c self n t)])
def dg:Config×Int×Node×Int→Prop×List PV×List PV:=mkF fun (c,self,n,t)=>(aA n=false,Row.row ((dl c self n t).1)++[I (dl c self n t).2])
def gG:Config×Int×Node×Int×Bool×Int→Prop×List PV×List PV:=mkF fun (c,self,n,t,sub,why)=>(aA n=false∧why≠0,Row.row ((cN c self n t sub why).1)++[I (cN c self n t sub why).2])
def bJ:Config×Int×Node×Int→Prop×List PV×List PV:=mkF fun (c,self,n,t)=>(aA n=false,Row.row ((cN c self n t true 8).1)++[I (cN c self n t true 8).2])
def bX:Config×Int×Node×Int→Prop×List PV×List PV:=mkF fun (c,self,n,t)=>(aA n=false,Row.row ((cN c self n t false 7).1)++[I (cN c self n t false 7).2])
def cL:Config×Int×Node×Int×Int→Prop×List PV×List PV:=mkF fun (c,self,n,t,value)=>(aA n=false,Row.row ((bf c self n t value).1)++[L (bf c self n t value).2.1,I (bf c self n t value).2.2.1,I (bf c self n t value).2.2.2])
def dw:Config×Int×Node×Int×Int→Prop×List PV×List PV:=mkF fun (c,self,n,t,value)=>(aA n=false,Row.row ((cy c self n t value).1)++[L (cy c self n t value).2.1,I (cy c self n t value).2.2.1,I (cy c self n t value).2.2.2])
def dB:Config×Int×Node×Int→Prop×List PV×List PV:=mkF fun (c,self,n,t)=>(aA n=false,Row.row ((dL c self n t).1)++Row.row ((dL c self n t).2.1)++[I (dL c self n t).2.2])
def gH:(List Item)×Int×Int×Int→Prop×List PV×List PV:=mkF fun (l,want,limit,value)=>(l.length≤1000∧0≤limit∧limit≤1000,[L (qX l want limit value)])
def iZ:(List Event)×Int×Event→Prop×List PV×List PV:=mkF fun (l,limit,x)=>(bh l limit=true∧ec x=true,[L (tq l limit x)])
def gI:Config×Stream×Bool×(List Event)×Int×Item→Prop×List PV×List PV:=mkF fun (c,s,sub,q,epoch,x)=>(bx c=true∧dK c s q=true∧epoch=s.epoch∧ep epoch=true∧x.seq=s.want∧s.want<1073741823∧val x.value=true,Row.row ((ce c s sub q x.value).1)++[L (ce c s sub q x.value).2.1,L (ce c s sub q x.value).2.2])
def ft:Int×Topic×(List Item)→Prop×List PV×List PV:=mkF fun (t,x,on)=>(on.length≤1000∧x.kids.length≤1000,[L (jQ t x on)])
def dT:Config×Int×Int×Topic×Int→Prop×List PV×List PV:=mkF fun (c,t,self,x,value)=>(ua c t self x=0∧val value=true,Row.row ((au c t self x value).1)++[L (au c t self x value).2.1,I (au c t self x value).2.2])
def dx:Config×Int×Node×Int×Int→Prop×List PV×List PV:=mkF fun (c,self,n,t,value)=>(aA n=false∧bt c self n t=0∧val value=true,Row.row ((fG c self n t value).1)++[L (fG c self n t value).2.1,I (fG c self n t value).2.2.1,I (fG c self n t value).2.2.2])
def jS:Unit→Prop×List PV×List PV:=fun _=>(True,[],[bb true])
noncomputable def EE:=fnT jS
def fu:Config×Int×Node×Int×Bool→Prop×List PV×List PV:=mkF fun (c,self,n,t,made)=>(aA n=false,[I (if made=true then aH c self n t else bt c self n t)])
noncomputable def EF:=fnT fu
def cX:Config×Int×Node×Int→Prop×List PV×List PV:=mkF fun (c,self,n,t)=>(True,[bb true])
noncomputable def oq:=fnT cX
def cm:Config×Int×Node×Int×Int→Prop×List PV×List PV:=mkF fun (c,self,n,t,value)=>(True,[bb true])
noncomputable def mZ:=fnT cm
def dq:Config×Int×Node×Int→Prop×List PV×List PV:=mkF fun (c,self,n,t)=>(True,[bb true])
noncomputable def pm:=fnT dq
def dU:Int×Int×Int→Prop×List PV×List PV:=mkF fun (t,limit,n)=>(True,[bb true])
noncomputable def ot:=fnT dU
def cY:Config×Int×Node×Int×Int→Prop×List PV×List PV:=mkF fun (c,self,n,t,value)=>(True,[bb true])
noncomputable def ou:=fnT cY
def cZ:Config×Int×Node×Int×Int×Int→Prop×List PV×List PV:=mkF fun (c,self,n,t,value,kind)=>(True,[bb true])
noncomputable def ov:=fnT cZ
noncomputable def pn:List PV→Option (List PV):=qU (fun (((l,want,window,x_seq,x_value)):(List Item)×Int×Int×Int×Int)=>False) (fun (((l,want,window,x_seq,x_value)):(List Item)×Int×Int×Int×Int)=>[L l,I want,I window,I x_seq,I x_value]) (fun (((l,want,window,x_seq,x_value)):(List Item)×Int×Int×Int×Int)=>[L l,I 0])
noncomputable def po:List PV→Option (List PV):=qU (fun (((l,want,window,x_seq,x_value)):(List Item)×Int×Int×Int×Int)=>False) (fun (((l,want,window,x_seq,x_value)):(List Item)×Int×Int×Int×Int)=>[L l,I want,I window,I x_seq,I x_value]) (fun (((l,want,window,x_seq,x_value)):(List Item)×Int×Int×Int×Int)=>[L l,I 0])
noncomputable def ρ:Fns:=fun K=>match K with
 | 147=>fnT nY
 | 100=>fnT kJ
 | 81=>fnT jl
 | 101=>fnT nZ
 | 184=>fnT lq
 | 183=>fnT jR
 | 182=>fnT iI
 | 46=>fnT ma
 | 16=>fnT gW
 | 130=>fnT ej
 | 128=>fnT fH
 | 118=>fnT mY
 | 124=>fnT fI
 | 82=>fnT kq
 | 249=>fnT fY
 | 215=>fnT fZ
 | 105=>fnT dG
 | 60=>fnT ga
 | 167=>fnT gc
 | 159=>fnT bm
 | 258=>iw
 | 259=>eJ
 | 271=>fnT qZ
 | 256=>fnT mb
 | 37=>fnT gd
 | 225=>fnT eK
 | 257=>fnT eM
 | 227=>fnT eN
 | 226=>fnT du
 | 179=>fnT ge
 | 178=>fnT eO
 | 113=>fnT gf
 | 190=>fnT fJ
 | 123=>fnT eP
 | 122=>fnT dv
 | 69=>fnT eQ
 | 72=>fnT gg
 | 195=>om
 | 194=>pK
 | 133=>oo
 | 134=>fnT ek
 | 78=>fnT eo
 | 67=>fnT mc
 | 48=>fnT fK
 | 173=>fnT gX
 | 248=>fnT kK
 | 109=>fnT ra
 | 135=>fnT gY
 | 56=>fnT kL
 | 79=>fnT o0
 | 49=>fnT md
 | 164=>fnT mf
 | 31=>fnT gZ
 | 244=>fnT hU
 | 165=>fnT hZ
 | 153=>fnT jm
 | 88=>fnT gh
 | 103=>fnT eR
 | 202=>fnT jn
 | 155=>fnT gi
 | 168=>fnT gj
 | 269=>fnT gk
 | 251=>fnT gl
 | 245=>fnT gm
 | 223=>fnT jp
 | 220=>fnT eS
 | 246=>fnT dM
 | 240=>fnT ib
 | 247=>fnT ic
 | 239=>fnT eT
 | 211=>fnT eU
 | 268=>fnT kM
 | 250=>fnT gn
 | 216=>fnT go
 | 210=>fnT dN
 | 169=>fnT gp
 | 212=>fnT gr
 | 166=>fnT gt
 | 213=>fnT fL
 | 214=>fnT dO
 | 171=>fnT eV
 | 110=>fnT eW
 | 104=>fnT eX
 | 136=>fnT gu
 | 139=>fnT kN
 | 142=>fnT jq
 | 80=>fnT gv
 | 36=>fnT gw
 | 50=>fnT gx
 | 55=>fnT eY
 | 61=>fnT gy
 | 114=>fnT eZ
 | 63=>fnT dP
 | 62=>fnT dQ
 | 25=>fnT fa
 | 23=>fnT gz
 | 106=>fnT cT
 | 170=>fnT cz
 | 108=>fnT cf
 | 53=>fnT cA
 | 107=>fnT cV
 | 54=>fnT dm
 | 22=>fnT cW
 | 102=>EB
 | 47=>EC
 | 17=>ED
 | 11=>Is
 | 84=>fnT aS
 | 85=>fnT aT
 | 86=>fnT aU
 | 87=>fnT aI
 | 149=>fnT aX
 | 52=>fnT aJ
 | 199=>fnT aV
 | 148=>fnT bw
 | 262=>cq
 | 229=>fnT kO
 | 83=>fnT jr
 | 241=>fnT kP
 | 201=>fnT iJ
 | 154=>fnT iK
 | 97=>fnT iL
 | 89=>fnT gA
 | 41=>fnT fV
 | 59=>fnT iM
 | 181=>fnT iN
 | 18=>fnT fh
 | 66=>fnT js
 | 162=>fnT mg
 | 208=>fnT gB
 | 205=>fnT mh
 | 206=>fnT kQ
 | 207=>fnT kR
 | 243=>ix
 | 209=>fnT bj
 | 161=>fnT kr
 | 99=>fnT iO
 | 127=>fnT iP
 | 132=>fnT dR
 | 131=>fnT fi
 | 129=>fnT ig
 | 126=>fnT fM
 | 117=>fnT ez
 | 232=>fnT iQ
 | 73=>fnT iR
 | 33=>fnT gC
 | 77=>fnT iS
 | 34=>fnT fj
 | 157=>fnT jt
 | 185=>fnT dp
 | 158=>fnT ju
 | 187=>fnT ii
 | 186=>fnT jv
 | 94=>fnT fk
 | 119=>fnT dS
 | 76=>fnT er
 | 98=>fnT mi
 | 44=>fnT iT
 | 35=>fnT fm
 | 71=>fnT fo
 | 39=>fnT iU
 | 217=>fnT iV
 | 219=>fnT gD
 | 111=>fnT iW
 | 112=>fnT iX
 | 58=>fnT fp
 | 57=>fnT iY
 | 21=>fnT gE
 | 64=>fnT fq
 | 51=>fnT gF
 | 26=>fnT dg
 | 65=>fnT gG
 | 27=>fnT bJ
 | 28=>fnT bX
 | 24=>fnT cL
 | 29=>fnT dw
 | 19=>fnT dB
 | 230=>fnT gH
 | 231=>fnT iZ
 | 120=>fnT gI
 | 121=>fnT ft
 | 70=>fnT dT
 | 32=>fnT dx
 | 20=>EE
 | 30=>EF
 | 5=>oq
 | 6=>mZ
 | 8=>pm
 | 7=>ot
 | 9=>ou
 | 10=>ov
 | 177=>pn
 | 189=>po
 | _=>fun _=>none
theorem CE{α:Type}[Enc α](F:α→Prop×List PV×List PV)(K m:Nat)(e:ρ K=fnT F)(hg: ∀a,(F a).2.1=Enc.enc a)(a:α)(k:xJ m)(hp:(F a).1)(hm:(F a).2.2.length=m):CALL ρ K (F a).2.1 m k=app m k (F a).2.2:=wv e hg a hp hm
def et:=by
 have h:=fun n k_=>CE nY 147 1 rfl (fun _=>rfl) n k_ trivial rfl
 simp only[nY,RR,ah,ai] at h
 exact h
def pp:=by
 have h:=fun n k_=>CE kJ 100 2 rfl (fun _=>rfl) n k_ trivial rfl
 simp only[kJ,RR,ah,ai] at h
 exact h
def rJ:=by
 have h:=fun t k_=>CE jl 81 2 rfl (fun _=>rfl) t k_ trivial rfl
 simp only[jl,RR,ah,ai] at h
 exact h
def vp:=by
 have h:=fun k  n k_ h_=>CE nZ 101 1 rfl (fun _=>rfl) (k,n) k_ h_ rfl
 simp only[nZ,RR,ah,ai] at h
 exact h
theorem rK{z0:Int}{k_:PV→Prop}(h:isN z0=true):CALL ρ 184 [I z0] 1 k_=k_ (I (nn z0)):=wv (F:=lq) rfl (fun _=>rfl) z0 h rfl
theorem EG{z0:Int}{k_:PV→Prop}(h:isT z0=true):CALL ρ 183 [I z0] 1 k_=k_ (I (tt z0)):=wv (F:=jR) rfl (fun _=>rfl) z0 h rfl
theorem ow{z0 z1:Int}{k_:PV→Prop}(h:0≤z0∧z0<4611686018427387904∧0≤z1∧z1<4611686018427387904):CALL ρ 182 [I z0,I z1] 1 k_=k_ (I (far z0 z1)):=wv (F:=iI) rfl (fun _=>rfl) (z0,z1) h rfl
def ox:=by
 have h:=fun t  n k_=>CE ma 46 2 rfl (fun _=>rfl) (t,n) k_ trivial rfl
 simp only[ma,RR,ah,ai] at h
 exact h
def dC:=by
 have h:=fun t  a  b k_=>CE gW 16 1 rfl (fun _=>rfl) (t,a,b) k_ trivial rfl
 simp only[gW,RR,ah,ai] at h
 exact h
def ng:=by
 have h:=fun t k_=>CE ej 130 1 rfl (fun _=>rfl) t k_ trivial rfl
 simp only[ej,RR,ah,ai] at h
 exact h
def dV:=by
 have h:=fun n k_=>CE fH 128 1 rfl (fun _=>rfl) n k_ trivial rfl
 simp only[fH,RR,ah,ai] at h
 exact h
theorem kS{z0 z1:Int}{k_:PV→Prop}(h:isT z0=true∧isN z1=true):CALL ρ 118 [I z0,I z1] 1 k_=k_ (I (gap z0 z1)):=wv (F:=mY) rfl (fun _=>rfl) (z0,z1) h rfl
def lu:=by
 have h:=fun t  a  b k_=>CE fI 124 1 rfl (fun _=>rfl) (t,a,b) k_ trivial rfl
 simp only[fI,RR,ah,ai] at h
 exact h
def wH:=by
 have h:=fun l k_=>CE kq 82 1 rfl (fun _=>rfl) l k_ trivial rfl
 simp only[kq,RR,ah,ai] at h
 exact h
def It:=by
 have h:=fun t  self  l k_=>CE fY 249 1 rfl (fun _=>rfl) (t,self,l) k_ trivial rfl
 simp only[fY,RR,ah,ai] at h
 exact h
def Iu:=by
 have h:=fun t  self  l  depth k_=>CE fZ 215 1 rfl (fun _=>rfl) (t,self,l,depth) k_ trivial rfl
 simp only[fZ,RR,ah,ai] at h
 exact h
def jw:=by
 have h:=fun l k_ h_=>CE dG 105 1 rfl (fun _=>rfl) l k_ h_ rfl
 simp only[dG,RR,ah,ai] at h
 exact h
def xX:=by
 have h:=fun a  b k_=>CE ga 60 1 rfl (fun _=>rfl) (a,b) k_ trivial rfl
 simp only[ga,RR,ah,ai] at h
 exact h
def Iv:=by
 have h:=fun t  self  l  depth k_ h_=>CE gc 167 1 rfl (fun _=>rfl) (t,self,l,depth) k_ h_ rfl
 simp only[gc,RR,ah,ai] at h
 exact h
def bT:=by
 have h:=fun l  n k_=>CE bm 159 1 rfl (fun _=>rfl) (l,n) k_ trivial rfl
 simp only[bm,RR,ah,ai] at h
 exact h
theorem tr{l:List Int}(h:l.length<4611686018427387904):iw [L l]=some [L (nc l)]:=mF (a:=l) (by intro a b h;simpa[fC,vL] using h) h
theorem tu{l:List Int}{k_:PV→Prop}(h:l.length<4611686018427387904):CALL ρ 258 [L l] 1 k_=k_ (L (nc l)):=mG (ρ:=ρ) (K:=258) (m:=1) (k:=k_) (tr h) rfl
theorem pL{l:List Int}(h:l.length<4611686018427387904):eJ [L l]=some [L (bK l)]:=mF (a:=l) (by intro a b h;simpa[fC,vL] using h) h
theorem pM{l:List Int}{k_:PV→Prop}(h:l.length<4611686018427387904):CALL ρ 259 [L l] 1 k_=k_ (L (bK l)):=mG (ρ:=ρ) (K:=259) (m:=1) (k:=k_) (pL h) rfl
def Rh:=by
 have h:=fun k k_=>CE qZ 271 1 rfl (fun _=>rfl) k k_ trivial rfl
 simp only[qZ,RR,ah,ai] at h
 exact h
def NX:=by
 have h:=fun k  bits k_=>CE mb 256 2 rfl (fun _=>rfl) (k,bits) k_ trivial rfl
 simp only[mb,RR,ah,ai] at h
 exact h
def Iw:=by
 have h:=fun t  l k_=>CE gd 37 2 rfl (fun _=>rfl) (t,l) k_ trivial rfl
 simp only[gd,RR,ah,ai] at h
 exact h
def EH:=by
 have h:=fun live  self k_=>CE eK 225 1 rfl (fun _=>rfl) (live,self) k_ trivial rfl
 simp only[eK,RR,ah,ai] at h
 exact h
def EI:=by
 have h:=fun live  k k_ h_=>CE eM 257 1 rfl (fun _=>rfl) (live,k) k_ h_ rfl
 simp only[eM,RR,ah,ai] at h
 exact h
def EJ:=by
 have h:=fun live  self k_ h_=>CE eN 227 1 rfl (fun _=>rfl) (live,self) k_ h_ rfl
 simp only[eN,RR,ah,ai] at h
 exact h
def AK:=by
 have h:=fun live  self k_ h_=>CE du 226 1 rfl (fun _=>rfl) (live,self) k_ h_ rfl
 simp only[du,RR,ah,ai] at h
 exact h
def Ix:=by
 have h:=fun t  live  self k_ h_=>CE ge 179 1 rfl (fun _=>rfl) (t,live,self) k_ h_ rfl
 simp only[ge,RR,ah,ai] at h
 exact h
def EK:=by
 have h:=fun t  live  self k_=>CE eO 178 1 rfl (fun _=>rfl) (t,live,self) k_ trivial rfl
 simp only[eO,RR,ah,ai] at h
 exact h
def Iy:=by
 have h:=fun t  live  self k_=>CE gf 113 3 rfl (fun _=>rfl) (t,live,self) k_ trivial rfl
 simp only[gf,RR,ah,ai] at h
 exact h
def oy:=by
 have h:=fun n  self k_ h_=>CE fJ 190 1 rfl (fun _=>rfl) (n,self) k_ h_ rfl
 simp only[fJ,RR,ah,ai] at h
 exact h
def EL:=by
 have h:=fun live  self k_ h_=>CE eP 123 1 rfl (fun _=>rfl) (live,self) k_ h_ rfl
 simp only[eP,RR,ah,ai] at h
 exact h
def AL:=by
 have h:=fun live  self k_ h_=>CE dv 122 1 rfl (fun _=>rfl) (live,self) k_ h_ rfl
 simp only[dv,RR,ah,ai] at h
 exact h
def vP:=by
 have h:=fun t  l k_ h_=>CE eQ 69 1 rfl (fun _=>rfl) (t,l) k_ h_ rfl
 simp only[eQ,RR,ah,ai] at h
 exact h
def xY:=by
 have h:=fun t  live  self k_ h_=>CE gg 72 1 rfl (fun _=>rfl) (t,live,self) k_ h_ rfl
 simp only[gg,RR,ah,ai] at h
 exact h
theorem Ck{s:ByteArray}{n lo hi why:Int}:om [.str s,I n,I lo,I hi,I why]=some [E ⟨false,if n<lo∨hi<n then [why] else []⟩]:=mF (a:=(s,n,lo,hi,why)) (by rintro ⟨_,_,_,_,_⟩ ⟨_,_,_,_,_⟩ h;simpa[fC,vL] using h) trivial
theorem Cl{s:ByteArray}{n lo hi why:Int}{k_:PV→Prop}:CALL ρ 195 [.str s,I n,I lo,I hi,I why] 1 k_=k_ (E ⟨false,if n<lo∨hi<n then [why] else []⟩):=mG (ρ:=ρ) (K:=195) (m:=1) (k:=k_) (Ck) rfl
theorem EM{xs:List Er}(h:xs≠[]∧xs.length≤1000∧ ∀x∈xs,x.j=false):pK [L xs]=some [E ⟨true,xs.flatMap (·.l)⟩]:=mF (a:=xs) (by intro a b h;simpa[fC,vL] using h) h
theorem vQ{xs:List Er}{k_:PV→Prop}(h:xs≠[]∧xs.length≤1000∧ ∀x∈xs,x.j=false):CALL ρ 194 [L xs] 1 k_=k_ (E ⟨true,xs.flatMap (·.l)⟩):=mG (ρ:=ρ) (K:=194) (m:=1) (k:=k_) (EM h) rfl
theorem Cm{x:Er}(h:x.l.length≤1000):oo [E x]=some [I (jk x.l)]:=mF (a:=x) (by intro a b h;simpa[fC,vL] using h) h
theorem Cn{x:Er}{k_:PV→Prop}(h:x.l.length≤1000):CALL ρ 133 [E x] 1 k_=k_ (I (jk x.l)):=mG (ρ:=ρ) (K:=133) (m:=1) (k:=k_) (Cm h) rfl
def AM:=by
 have h:=be fun c k_=>CE ek 134 1 rfl (fun _=>rfl) c k_ trivial rfl
 simp only[ek,RR,ah,ai] at h
 exact h
def nh:=by
 have h:=be fun c k_=>CE eo 78 1 rfl (fun _=>rfl) c k_ trivial rfl
 simp only[eo,RR,ah,ai] at h
 exact h
def mj:=by
 have h:=fun n  lo  hi k_=>CE mc 67 1 rfl (fun _=>rfl) (n,lo,hi) k_ trivial rfl
 simp only[mc,RR,ah,ai] at h
 exact h
def Co:=by
 have h:=be fun c k_=>CE fK 48 1 rfl (fun _=>rfl) c k_ trivial rfl
 simp only[fK,RR,ah,ai] at h
 exact h
def jT:=by
 have h:=fun e k_=>CE gX 173 1 rfl (fun _=>rfl) e k_ trivial rfl
 simp only[gX,RR,ah,ai] at h
 exact h
def Lz:=by
 have h:=fun e k_=>CE kK 248 2 rfl (fun _=>rfl) e k_ trivial rfl
 simp only[kK,RR,ah,ai] at h
 exact h
def rb:=by
 have h:=fun n  lo  hi k_=>CE ra 109 1 rfl (fun _=>rfl) (n,lo,hi) k_ trivial rfl
 simp only[ra,RR,ah,ai] at h
 exact h
def bP:=by
 have h:=fun n k_=>CE gY 135 1 rfl (fun _=>rfl) n k_ trivial rfl
 simp only[gY,RR,ah,ai] at h
 exact h
def cn:=by
 have h:=fun n k_=>CE kL 56 1 rfl (fun _=>rfl) n k_ trivial rfl
 simp only[kL,RR,ah,ai] at h
 exact h
def fN:=by
 have h:=fun n  lo  hi k_=>CE o0 79 1 rfl (fun _=>rfl) (n,lo,hi) k_ trivial rfl
 simp only[o0,RR,ah,ai] at h
 exact h
def wI:=by
 have h:=fun n  lo  hi k_=>CE md 49 1 rfl (fun _=>rfl) (n,lo,hi) k_ trivial rfl
 simp only[md,RR,ah,ai] at h
 exact h
def cB:=by
 have h:=fun n  lo  hi k_=>CE mf 164 1 rfl (fun _=>rfl) (n,lo,hi) k_ trivial rfl
 simp only[mf,RR,ah,ai] at h
 exact h
def ij:=by
 have h:=fun n k_=>CE gZ 31 1 rfl (fun _=>rfl) n k_ trivial rfl
 simp only[gZ,RR,ah,ai] at h
 exact h
def vR:=by
 have h:=fun n k_=>CE hU 244 1 rfl (fun _=>rfl) n k_ trivial rfl
 simp only[hU,RR,ah,ai] at h
 exact h
def pN:=by
 have h:=fun e k_=>CE hZ 165 1 rfl (fun _=>rfl) e k_ trivial rfl
 simp only[hZ,RR,ah,ai] at h
 exact h
def rL:=by
 have h:=U8 fun p k_=>CE jm 153 1 rfl (fun _=>rfl) p k_ trivial rfl
 simp only[jm,RR,ah,ai] at h
 exact h
def rM:=by
 have h:=fun l k_=>CE gh 88 1 rfl (fun _=>rfl) l k_ trivial rfl
 simp only[gh,RR,ah,ai] at h
 exact h
def EN:=by
 have h:=fun l k_=>CE eR 103 1 rfl (fun _=>rfl) l k_ trivial rfl
 simp only[eR,RR,ah,ai] at h
 exact h
def Iz:=by
 have h:=fun t  self=>UT fun k k_=>CE jn 202 1 rfl (fun _=>rfl) (t,self,k) k_ trivial rfl
 simp only[jn,RR,ah,ai] at h
 exact h
def IA:=by
 have h:=fun t  self  limit  l k_=>CE gi 155 1 rfl (fun _=>rfl) (t,self,limit,l) k_ trivial rfl
 simp only[gi,RR,ah,ai] at h
 exact h
def IB:=by
 have h:=fun t  self  limit  l k_=>CE gj 168 1 rfl (fun _=>rfl) (t,self,limit,l) k_ trivial rfl
 simp only[gj,RR,ah,ai] at h
 exact h
def IC:=by
 have h:=fun l  want k_ h_=>CE gk 269 1 rfl (fun _=>rfl) (l,want) k_ h_ rfl
 simp only[gk,RR,ah,ai] at h
 exact h
def xZ:=by
 have h:=fun l  want  limit k_=>CE gl 251 1 rfl (fun _=>rfl) (l,want,limit) k_ trivial rfl
 simp only[gl,RR,ah,ai] at h
 exact h
def ID:=by
 have h:=fun l  want  limit k_=>CE gm 245 1 rfl (fun _=>rfl) (l,want,limit) k_ trivial rfl
 simp only[gm,RR,ah,ai] at h
 exact h
def IE:=by
 have h:=fun seq  want  window k_ h_=>CE jp 223 1 rfl (fun _=>rfl) (seq,want,window) k_ h_ rfl
 simp only[jp,RR,ah,ai] at h
 exact h
def EO:=by
 have h:=fun l  want  window k_=>CE eS 220 1 rfl (fun _=>rfl) (l,want,window) k_ trivial rfl
 simp only[eS,RR,ah,ai] at h
 exact h
def Cp:=by
 have h:=fun l  want  window k_=>CE dM 246 1 rfl (fun _=>rfl) (l,want,window) k_ trivial rfl
 simp only[dM,RR,ah,ai] at h
 exact h
def dc:=by
 have h:=rI fun x k_=>CE ib 240 1 rfl (fun _=>rfl) x k_ trivial rfl
 simp only[ib,RR,ah,ai] at h
 exact h
def EP:=by
 have h:=rI fun x k_=>CE ic 247 1 rfl (fun _=>rfl) x k_ trivial rfl
 simp only[ic,RR,ah,ai] at h
 exact h
def vS:=by
 have h:=fun l  limit k_=>CE eT 239 1 rfl (fun _=>rfl) (l,limit) k_ trivial rfl
 simp only[eT,RR,ah,ai] at h
 exact h
def EQ:=by
 have h:=fun l  limit k_=>CE eU 211 1 rfl (fun _=>rfl) (l,limit) k_ trivial rfl
 simp only[eU,RR,ah,ai] at h
 exact h
def LA:=by
 have h:=iH fun s k_=>CE kM 268 1 rfl (fun _=>rfl) s k_ trivial rfl
 simp only[kM,RR,ah,ai] at h
 exact h
def IF:=by
 have h:=be fun c=>iH fun s k_=>CE gn 250 1 rfl (fun _=>rfl) (c,s) k_ trivial rfl
 simp only[gn,RR,ah,ai] at h
 exact h
def yb:=by
 have h:=be fun c=>iH fun s  q k_=>CE go 216 1 rfl (fun _=>rfl) (c,s,q) k_ trivial rfl
 simp only[go,RR,ah,ai] at h
 exact h
def Cq:=by
 have h:=be fun c=>iH fun s k_=>CE dN 210 1 rfl (fun _=>rfl) (c,s) k_ trivial rfl
 simp only[dN,RR,ah,ai] at h
 exact h
def IG:=by
 have h:=be fun c=>iH fun s  q k_=>CE gp 169 1 rfl (fun _=>rfl) (c,s,q) k_ trivial rfl
 simp only[gp,RR,ah,ai] at h
 exact h
def IH:=by
 have h:=fun t  self  n k_=>CE gr 212 1 rfl (fun _=>rfl) (t,self,n) k_ trivial rfl
 simp only[gr,RR,ah,ai] at h
 exact h
def II:=by
 have h:=fun t  self  n k_=>CE gt 166 1 rfl (fun _=>rfl) (t,self,n) k_ trivial rfl
 simp only[gt,RR,ah,ai] at h
 exact h
def Cr:=by
 have h:=fun self=>dA fun x k_=>CE fL 213 1 rfl (fun _=>rfl) (self,x) k_ trivial rfl
 simp only[fL,RR,ah,ai] at h
 exact h
def Cs:=by
 have h:=dA fun x k_ h_=>CE dO 214 1 rfl (fun _=>rfl) x k_ h_ rfl
 simp only[dO,RR,ah,ai] at h
 exact h
def ER:=by
 have h:=be fun c  t  self=>dA fun x k_ h_=>CE eV 171 1 rfl (fun _=>rfl) (c,t,self,x) k_ h_ rfl
 simp only[eV,RR,ah,ai] at h
 exact h
def pO:=by
 have h:=be fun c  t  self=>dA fun x k_=>CE eW 110 1 rfl (fun _=>rfl) (c,t,self,x) k_ trivial rfl
 simp only[eW,RR,ah,ai] at h
 exact h
def ES:=by
 have h:=be fun c  t  self=>dA fun x k_ h_=>CE eX 104 1 rfl (fun _=>rfl) (c,t,self,x) k_ h_ rfl
 simp only[eX,RR,ah,ai] at h
 exact h
def IJ:=by
 have h:=be fun c=>cM fun n k_ h_=>CE gu 136 1 rfl (fun _=>rfl) (c,n) k_ h_ rfl
 simp only[gu,RR,ah,ai] at h
 exact h
def LB:=by
 have h:=U9 fun m k_=>CE kN 139 1 rfl (fun _=>rfl) m k_ trivial rfl
 simp only[kN,RR,ah,ai] at h
 exact h
def IK:=by
 have h:=be fun c=>SD fun x k_ h_=>CE jq 142 1 rfl (fun _=>rfl) (c,x) k_ h_ rfl
 simp only[jq,RR,ah,ai] at h
 exact h
def IL:=by
 have h:=be fun c  self=>cM fun n k_ h_=>CE gv 80 1 rfl (fun _=>rfl) (c,self,n) k_ h_ rfl
 simp only[gv,RR,ah,ai] at h
 exact h
def lv:=by
 have h:=be fun c  self=>cM fun n k_=>CE gw 36 1 rfl (fun _=>rfl) (c,self,n) k_ trivial rfl
 simp only[gw,RR,ah,ai] at h
 exact h
def IM:=by
 have h:=be fun c  self=>cM fun n k_ h_=>CE gx 50 1 rfl (fun _=>rfl) (c,self,n) k_ h_ rfl
 simp only[gx,RR,ah,ai] at h
 exact h
def ET:=by
 have h:=fun a  b k_=>CE eY 55 1 rfl (fun _=>rfl) (a,b) k_ trivial rfl
 simp only[eY,RR,ah,ai] at h
 exact h
def IO:=by
 have h:=fun a  b k_=>CE gy 61 1 rfl (fun _=>rfl) (a,b) k_ trivial rfl
 simp only[gy,RR,ah,ai] at h
 exact h
def EU:=by
 have h:=fun a  b k_=>CE eZ 114 1 rfl (fun _=>rfl) (a,b) k_ trivial rfl
 simp only[eZ,RR,ah,ai] at h
 exact h
def Ct:=by
 have h:=fun a  b k_=>CE dP 63 1 rfl (fun _=>rfl) (a,b) k_ trivial rfl
 simp only[dP,RR,ah,ai] at h
 exact h
def ue:=by
 have h:=iH fun a=>iH fun b k_=>CE dQ 62 1 rfl (fun _=>rfl) (a,b) k_ trivial rfl
 simp only[dQ,RR,ah,ai] at h
 exact h
def vT:=by
 have h:=dA fun a=>dA fun b k_=>CE fa 25 1 rfl (fun _=>rfl) (a,b) k_ trivial rfl
 simp only[fa,RR,ah,ai] at h
 exact h
def nK:=by
 have h:=cM fun a=>cM fun b k_=>CE gz 23 1 rfl (fun _=>rfl) (a,b) k_ trivial rfl
 simp only[gz,RR,ah,ai] at h
 exact h
def zl:=by
 have h:=fun l k_ h_=>CE cT 106 1 rfl (fun _=>rfl) l k_ h_ rfl
 simp only[cT,RR,ah,ai] at h
 exact h
def yc:=by
 have h:=fun l k_ h_=>CE cz 170 1 rfl (fun _=>rfl) l k_ h_ rfl
 simp only[cz,RR,ah,ai] at h
 exact h
def bc:=by
 have h:=fun l k_ h_=>CE cf 108 1 rfl (fun _=>rfl) l k_ h_ rfl
 simp only[cf,RR,ah,ai] at h
 exact h
def pq:=by
 have h:=fun l k_ h_=>CE cA 53 1 rfl (fun _=>rfl) l k_ h_ rfl
 simp only[cA,RR,ah,ai] at h
 exact h
def oz:=by
 have h:=iH fun s k_ h_=>CE cV 107 5 rfl (fun _=>rfl) s k_ h_ rfl
 simp only[cV,RR,ah,ai] at h
 exact h
def iD:=by
 have h:=dA fun x k_ h_=>CE dm 54 16 rfl (fun _=>rfl) x k_ h_ rfl
 simp only[dm,RR,ah,ai] at h
 exact h
def jx:=by
 have h:=cM fun n k_ h_=>CE cW 22 9 rfl (fun _=>rfl) n k_ h_ rfl
 simp only[cW,RR,ah,ai] at h
 exact h
def EV:=by
 have h:=iH fun s  q k_=>CE fc 102 1 rfl (fun _=>rfl) (s,q) k_ trivial rfl
 simp only[fc,RR,ah,ai] at h
 exact h
def jU:=by
 have h:=dA fun x k_=>CE fe 47 1 rfl (fun _=>rfl) x k_ trivial rfl
 simp only[fe,RR,ah,ai] at h
 exact h
def fv:=by
 have h:=cM fun n k_=>CE fg 17 1 rfl (fun _=>rfl) n k_ trivial rfl
 simp only[fg,RR,ah,ai] at h
 exact h
theorem rN  {k_:PV→PV→PV→PV→PV→PV→PV→Prop}:CALL ρ 11 [] 7 k_=k_ (I 8) (I 4) (I 2) (I 8) (I 8) (I 8) (I 16):=NH (F:=lr) rfl (fun _ _ _=>rfl) () trivial rfl
def eA:=by
 have h:=fun l k_ h_=>CE aS 84 1 rfl (fun _=>rfl) l k_ h_ rfl
 simp only[aS,RR,ah,ai] at h
 exact h
def eB:=by
 have h:=fun l k_ h_=>CE aT 85 1 rfl (fun _=>rfl) l k_ h_ rfl
 simp only[aT,RR,ah,ai] at h
 exact h
def eC:=by
 have h:=fun l k_ h_=>CE aU 86 1 rfl (fun _=>rfl) l k_ h_ rfl
 simp only[aU,RR,ah,ai] at h
 exact h
def dW:=by
 have h:=fun l k_ h_=>CE aI 87 1 rfl (fun _=>rfl) l k_ h_ rfl
 simp only[aI,RR,ah,ai] at h
 exact h
def mm:=by
 have h:=fun l k_ h_=>CE aX 149 1 rfl (fun _=>rfl) l k_ h_ rfl
 simp only[aX,RR,ah,ai] at h
 exact h
def aK:=by
 have h:=fun l k_ h_=>CE aJ 52 1 rfl (fun _=>rfl) l k_ h_ rfl
 simp only[aJ,RR,ah,ai] at h
 exact h
def aE:=by
 have h:=fun l k_ h_=>CE aV 199 1 rfl (fun _=>rfl) l k_ h_ rfl
 simp only[aV,RR,ah,ai] at h
 exact h
def gJ:=by
 have h:=fun l k_ h_=>CE bw 148 1 rfl (fun _=>rfl) l k_ h_ rfl
 simp only[bw,RR,ah,ai] at h
 exact h
theorem kX{l:List Call}{i j:Int}(h:0≤i∧i≤j∧j≤l.length∧l.length<4611686018427387904):cq [L l,I i,I j]=some [L (tp l i.toNat j.toNat)]:=mF (a:=(l,i,j)) (by rintro ⟨_,_,_⟩ ⟨_,_,_⟩ h;simpa[fC,vL] using h) h
theorem kY{l:List Call}{i j:Int}{k_:PV→Prop}(h:0≤i∧i≤j∧j≤l.length∧l.length<4611686018427387904):CALL ρ 262 [L l,I i,I j] 1 k_=k_ (L (tp l i.toNat j.toNat)):=mG (ρ:=ρ) (K:=262) (m:=1) (k:=k_) (kX h) rfl
def LC:=by
 have h:=dA fun x k_=>CE kO 229 1 rfl (fun _=>rfl) x k_ trivial rfl
 simp only[kO,RR,ah,ai] at h
 exact h
def rO:=by
 have h:=dA fun x k_ h_=>CE jr 83 16 rfl (fun _=>rfl) x k_ h_ rfl
 simp only[jr,RR,ah,ai] at h
 exact h
def LD:=by
 have h:=rI fun x k_=>CE kP 241 7 rfl (fun _=>rfl) x k_ trivial rfl
 simp only[kP,RR,ah,ai] at h
 exact h
def LE:=by
 have h:=fun l  limit=>rI fun x k_=>CE iJ 201 2 rfl (fun _=>rfl) (l,limit,x) k_ trivial rfl
 simp only[iJ,RR,ah,ai] at h
 exact h
def Ag:=by
 have h:=fun l  limit=>rI fun x k_ h_=>CE iK 154 1 rfl (fun _=>rfl) (l,limit,x) k_ h_ rfl
 simp only[iK,RR,ah,ai] at h
 exact h
def Ah:=by
 have h:=cM fun n  o k_=>CE iL 97 1 rfl (fun _=>rfl) (n,o) k_ trivial rfl
 simp only[iL,RR,ah,ai] at h
 exact h
def rP:=by
 have h:=fun l  n k_=>CE gA 89 1 rfl (fun _=>rfl) (l,n) k_ trivial rfl
 simp only[gA,RR,ah,ai] at h
 exact h
def Ai:=by
 have h:=fun l  self k_=>CE fV 41 2 rfl (fun _=>rfl) (l,self) k_ trivial rfl
 simp only[fV,RR,ah,ai] at h
 exact h
def Aj:=by
 have h:=fun self=>cM fun n  t k_ h_=>CE iM 59 1 rfl (fun _=>rfl) (self,n,t) k_ h_ rfl
 simp only[iM,RR,ah,ai] at h
 exact h
theorem Al{z0:Int}{z1:Bool}{z2:Int}{z3:List Peer}{z4:List Topic}{z5:List Call}{z6 z7:Int}{z8:List Mark}{z9:List Mark2}{y0:Int}{k_:PV→Prop}(h:bB (Node.mk z1 z2 z3 z4 z5 z6 z7 z8 z9).peers=true∧rng z0 0 ((Node.mk z1 z2 z3 z4 z5 z6 z7 z8 z9).peers.length-1)=true∧isT y0=true∧y0<(Node.mk z1 z2 z3 z4 z5 z6 z7 z8 z9).topics.length∧(bi (Node.mk z1 z2 z3 z4 z5 z6 z7 z8 z9) y0).kids.length≤8∧(bi (Node.mk z1 z2 z3 z4 z5 z6 z7 z8 z9) y0).parent≤8∧0≤(bi (Node.mk z1 z2 z3 z4 z5 z6 z7 z8 z9) y0).parent):CALL ρ 181 [I z0,bb z1,I z2,L z3,L z4,L z5,I z6,I z7,L z8,L z9,I y0] 1 k_=(fun (n:Node)=>k_ (L (qW z0 n y0))) (Node.mk z1 z2 z3 z4 z5 z6 z7 z8 z9):=wv (F:=iN) rfl (fun _=>rfl) (z0,(Node.mk z1 z2 z3 z4 z5 z6 z7 z8 z9),y0) h rfl
def bD:=by
 have h:=be fun c  self=>cM fun n k_=>CE fh 18 1 rfl (fun _=>rfl) (c,self,n) k_ trivial rfl
 simp only[fh,RR,ah,ai] at h
 exact h
theorem IP{z0 z1 z2 z3 z4 z5 z6 z7:Int}{z8:Bool}{z9:Int}{y0:List Peer}{y1:List Topic}{y2:List Call}{y3 y4:Int}{y5:List Mark}{y6:List Mark2}{y7 y8:Int}{k_:PV→PV→PV→PV→PV→PV→PV→PV→PV→PV→PV→PV→Prop}:CALL ρ 66 [I z0,I z1,I z2,I z3,I z4,I z5,I z6,I z7,bb z8,I z9,L y0,L y1,L y2,I y3,I y4,L y5,L y6,I y7,I y8] 12 k_=(fun (c:Config) (n:Node)=>k_ (bb (aN c z7 n y7 y8).1.up) (I (aN c z7 n y7 y8).1.inc) (L (aN c z7 n y7 y8).1.peers) (L (aN c z7 n y7 y8).1.topics) (L (aN c z7 n y7 y8).1.calls) (I (aN c z7 n y7 y8).1.pubs) (I (aN c z7 n y7 y8).1.asks) (L (aN c z7 n y7 y8).1.marks) (L (aN c z7 n y7 y8).1.taken) (L (aN c z7 n y7 y8).2.1) (I (aN c z7 n y7 y8).2.2.1) (I (aN c z7 n y7 y8).2.2.2)) (Config.mk z0 z1 z2 z3 z4 z5 z6) (Node.mk z8 z9 y0 y1 y2 y3 y4 y5 y6):=wv (F:=js) rfl (fun _=>rfl) ((Config.mk z0 z1 z2 z3 z4 z5 z6),z7,(Node.mk z8 z9 y0 y1 y2 y3 y4 y5 y6),y7,y8) trivial rfl
def NY:=by
 have h:=vN fun m k_=>CE mg 162 1 rfl (fun _=>rfl) m k_ trivial rfl
 simp only[mg,RR,ah,ai] at h
 exact h
def yd:=by
 have h:=fun l k_=>CE gB 208 1 rfl (fun _=>rfl) l k_ trivial rfl
 simp only[gB,RR,ah,ai] at h
 exact h
def Q0:=by
 have h:=fun l k_=>CE mh 205 1 rfl (fun _=>rfl) l k_ trivial rfl
 simp only[mh,RR,ah,ai] at h
 exact h
def LF:=by
 have h:=vN fun m k_=>CE kQ 206 1 rfl (fun _=>rfl) m k_ trivial rfl
 simp only[kQ,RR,ah,ai] at h
 exact h
def LG:=by
 have h:=vN fun m k_=>CE kR 207 1 rfl (fun _=>rfl) m k_ trivial rfl
 simp only[kR,RR,ah,ai] at h
 exact h
theorem tv{l:List Int}{n:Int}(h:l=[]∧0≤n∧n≤1000000):ix [L l,I n]=some [L l]:=mF (a:=(l,n)) (by rintro ⟨_,_⟩ ⟨_,_⟩ h;simpa[fC,vL] using h) h
theorem bY{l:List Int}{n:Int}{k_:PV→Prop}(h:l=[]∧0≤n∧n≤1000000):CALL ρ 243 [L l,I n] 1 k_=k_ (L l):=mG (ρ:=ρ) (K:=243) (m:=1) (k:=k_) (tv h) rfl
def rc:=by
 have h:=fun ls k_ h_=>CE bj 209 1 rfl (fun _=>rfl) ls k_ h_ rfl
 simp only[bj,RR,ah,ai] at h
 exact h
def NZ:=by
 have h:=vN fun m k_=>CE kr 161 17 rfl (fun _=>rfl) m k_ trivial rfl
 simp only[kr,RR,ah,ai] at h
 exact h
def LH:=by
 have h:=vN fun m k_=>CE iO 99 1 rfl (fun _=>rfl) m k_ trivial rfl
 simp only[iO,RR,ah,ai] at h
 exact h
def LI:=by
 have h:=fun l  n k_=>CE iP 127 1 rfl (fun _=>rfl) (l,n) k_ trivial rfl
 simp only[iP,RR,ah,ai] at h
 exact h
def Cu:=by
 have h:=fun l k_=>CE dR 132 1 rfl (fun _=>rfl) l k_ trivial rfl
 simp only[dR,RR,ah,ai] at h
 exact h
def EW:=by
 have h:=fun l k_=>CE fi 131 1 rfl (fun _=>rfl) l k_ trivial rfl
 simp only[fi,RR,ah,ai] at h
 exact h
def EX:=by
 have h:=fun n k_=>CE ig 129 1 rfl (fun _=>rfl) n k_ trivial rfl
 simp only[ig,RR,ah,ai] at h
 exact h
def Cv:=by
 have h:=dA fun x k_=>CE fM 126 1 rfl (fun _=>rfl) x k_ trivial rfl
 simp only[fM,RR,ah,ai] at h
 exact h
def ye:=by
 have h:=fun l  self k_ h_=>CE ez 117 1 rfl (fun _=>rfl) (l,self) k_ h_ rfl
 simp only[ez,RR,ah,ai] at h
 exact h
def Am:=by
 have h:=fun l  limit=>rI fun x k_ h_=>CE iQ 232 2 rfl (fun _=>rfl) (l,limit,x) k_ h_ rfl
 simp only[iQ,RR,ah,ai] at h
 exact h
def pu:=by
 have h:=vN fun a=>vN fun b k_=>CE iR 73 1 rfl (fun _=>rfl) (a,b) k_ trivial rfl
 simp only[iR,RR,ah,ai] at h
 exact h
def IQ:=by
 have h:=fun a  b k_=>CE gC 33 1 rfl (fun _=>rfl) (a,b) k_ trivial rfl
 simp only[gC,RR,ah,ai] at h
 exact h
def LJ:=by
 have h:=vN fun m k_ h_=>CE iS 77 1 rfl (fun _=>rfl) m k_ h_ rfl
 simp only[iS,RR,ah,ai] at h
 exact h
def EY:=by
 have h:=be fun c  self=>cM fun n  t  value k_ h_=>CE fj 34 12 rfl (fun _=>rfl) (c,self,n,t,value) k_ h_ rfl
 simp only[fj,RR,ah,ai] at h
 exact h
def IR:=by
 have h:=fun n  top k_ h_=>CE jt 157 2 rfl (fun _=>rfl) (n,top) k_ h_ rfl
 simp only[jt,RR,ah,ai] at h
 exact h
def yf:=by
 have h:=fun n  top k_ h_=>CE dp 185 1 rfl (fun _=>rfl) (n,top) k_ h_ rfl
 simp only[dp,RR,ah,ai] at h
 exact h
def yg:=by
 have h:=fun e  n k_=>CE ju 158 5 rfl (fun _=>rfl) (e,n) k_ trivial rfl
 simp only[ju,RR,ah,ai] at h
 exact h
def vU:=by
 have h:=fun epoch  n k_=>CE ii 187 5 rfl (fun _=>rfl) (epoch,n) k_ trivial rfl
 simp only[ii,RR,ah,ai] at h
 exact h
def IU:=by
 have h:=dA fun x k_ h_=>CE jv 186 16 rfl (fun _=>rfl) x k_ h_ rfl
 simp only[jv,RR,ah,ai] at h
 exact h
def EZ:=by
 have h:=be fun c  t  self=>dA fun x k_ h_=>CE fk 94 17 rfl (fun _=>rfl) (c,t,self,x) k_ h_ rfl
 simp only[fk,RR,ah,ai] at h
 exact h
def Cw:=by
 have h:=fun self=>dA fun x k_ h_=>CE dS 119 17 rfl (fun _=>rfl) (self,x) k_ h_ rfl
 simp only[dS,RR,ah,ai] at h
 exact h
def AN:=by
 have h:=vN fun m k_ h_=>CE er 76 16 rfl (fun _=>rfl) m k_ h_ rfl
 simp only[er,RR,ah,ai] at h
 exact h
def O0:=by
 have h:=vN fun m k_ h_=>CE mi 98 16 rfl (fun _=>rfl) m k_ h_ rfl
 simp only[mi,RR,ah,ai] at h
 exact h
def An:=by
 have h:=fun self=>cM fun n  l k_ h_=>CE iT 44 2 rfl (fun _=>rfl) (self,n,l) k_ h_ rfl
 simp only[iT,RR,ah,ai] at h
 exact h
def vV:=by
 have h:=fun self=>cM fun n  l k_ h_=>CE fm 35 2 rfl (fun _=>rfl) (self,n,l) k_ h_ rfl
 simp only[fm,RR,ah,ai] at h
 exact h
def F0:=by
 have h:=fun self=>cM fun n  l k_ h_=>CE fo 71 1 rfl (fun _=>rfl) (self,n,l) k_ h_ rfl
 simp only[fo,RR,ah,ai] at h
 exact h
def pw:=by
 have h:=cM fun n k_ h_=>CE iU 39 9 rfl (fun _=>rfl) n k_ h_ rfl
 simp only[iU,RR,ah,ai] at h
 exact h
def LK:=by
 have h:=fun l  want  limit  value k_ h_=>CE iV 217 2 rfl (fun _=>rfl) (l,want,limit,value) k_ h_ rfl
 simp only[iV,RR,ah,ai] at h
 exact h
def IV:=by
 have h:=fun l  want k_ h_=>CE gD 219 2 rfl (fun _=>rfl) (l,want) k_ h_ rfl
 simp only[gD,RR,ah,ai] at h
 exact h
def LL:=by
 have h:=be fun c=>iH fun s  sub  q  at_=>Rg fun x k_ h_=>CE iW 111 8 rfl (fun _=>rfl) (c,s,sub,q,at_,x) k_ h_ rfl
 simp only[iW,RR,ah,ai] at h
 exact h
def LM:=by
 have h:=fun t=>dA fun x  on k_ h_=>CE iX 112 1 rfl (fun _=>rfl) (t,x,on) k_ h_ rfl
 simp only[iX,RR,ah,ai] at h
 exact h
def F1:=by
 have h:=be fun c  t  self=>dA fun x  value k_ h_=>CE fp 58 18 rfl (fun _=>rfl) (c,t,self,x,value) k_ h_ rfl
 simp only[fp,RR,ah,ai] at h
 exact h
def LO:=by
 have h:=fun self=>cM fun n  t k_ h_=>CE iY 57 1 rfl (fun _=>rfl) (self,n,t) k_ h_ rfl
 simp only[iY,RR,ah,ai] at h
 exact h
def yh:=by
 have h:=fun l k_ h_=>CE gE 21 8 rfl (fun _=>rfl) l k_ h_ rfl
 simp only[gE,RR,ah,ai] at h
 exact h
def mM:=by
 have h:=be fun c  self=>cM fun n  t k_ h_=>CE fq 64 1 rfl (fun _=>rfl) (c,self,n,t) k_ h_ rfl
 simp only[fq,RR,ah,ai] at h
 exact h
def nL:=by
 have h:=be fun c  self=>cM fun n  t k_ h_=>CE gF 51 1 rfl (fun _=>rfl) (c,self,n,t) k_ h_ rfl
 simp only[gF,RR,ah,ai] at h
 exact h
def lw:=by
 have h:=be fun c  self=>cM fun n  t k_ h_=>CE dg 26 10 rfl (fun _=>rfl) (c,self,n,t) k_ h_ rfl
 simp only[dg,RR,ah,ai] at h
 exact h
def yi:=by
 have h:=be fun c  self=>cM fun n  t  sub  why k_ h_=>CE gG 65 10 rfl (fun _=>rfl) (c,self,n,t,sub,why) k_ h_ rfl
 simp only[gG,RR,ah,ai] at h
 exact h
def eD:=by
 have h:=be fun c  self=>cM fun n  t k_ h_=>CE bJ 27 10 rfl (fun _=>rfl) (c,self,n,t) k_ h_ rfl
 simp only[bJ,RR,ah,ai] at h
 exact h
def jF:=by
 have h:=be fun c  self=>cM fun n  t k_ h_=>CE bX 28 10 rfl (fun _=>rfl) (c,self,n,t) k_ h_ rfl
 simp only[bX,RR,ah,ai] at h
 exact h
def gS:=by
 have h:=be fun c  self=>cM fun n  t  value k_ h_=>CE cL 24 12 rfl (fun _=>rfl) (c,self,n,t,value) k_ h_ rfl
 simp only[cL,RR,ah,ai] at h
 exact h
def tc:=by
 have h:=be fun c  self=>cM fun n  t  value k_ h_=>CE dw 29 12 rfl (fun _=>rfl) (c,self,n,t,value) k_ h_ rfl
 simp only[dw,RR,ah,ai] at h
 exact h
def lx:=by
 have h:=be fun c  self=>cM fun n  t k_ h_=>CE dB 19 16 rfl (fun _=>rfl) (c,self,n,t) k_ h_ rfl
 simp only[dB,RR,ah,ai] at h
 exact h
def IW:=by
 have h:=fun l  want  limit  value k_ h_=>CE gH 230 1 rfl (fun _=>rfl) (l,want,limit,value) k_ h_ rfl
 simp only[gH,RR,ah,ai] at h
 exact h
def LP:=by
 have h:=fun l  limit=>rI fun x k_ h_=>CE iZ 231 1 rfl (fun _=>rfl) (l,limit,x) k_ h_ rfl
 simp only[iZ,RR,ah,ai] at h
 exact h
def IX:=by
 have h:=be fun c=>iH fun s  sub  q  epoch=>Rg fun x k_ h_=>CE gI 120 7 rfl (fun _=>rfl) (c,s,sub,q,epoch,x) k_ h_ rfl
 simp only[gI,RR,ah,ai] at h
 exact h
def F2:=by
 have h:=fun t=>dA fun x  on k_ h_=>CE ft 121 1 rfl (fun _=>rfl) (t,x,on) k_ h_ rfl
 simp only[ft,RR,ah,ai] at h
 exact h
def Cx:=by
 have h:=be fun c  t  self=>dA fun x  value k_ h_=>CE dT 70 18 rfl (fun _=>rfl) (c,t,self,x,value) k_ h_ rfl
 simp only[dT,RR,ah,ai] at h
 exact h
def AO:=by
 have h:=be fun c  self=>cM fun n  t  value k_ h_=>CE dx 32 12 rfl (fun _=>rfl) (c,self,n,t,value) k_ h_ rfl
 simp only[dx,RR,ah,ai] at h
 exact h
theorem il  {k_:PV→Prop}:CALL ρ 20 [] 1 k_=k_ (bb true):=NH (F:=jS) rfl (fun _ _ _=>rfl) () trivial rfl
def F3:=by
 have h:=be fun c  self=>cM fun n  t  made k_ h_=>CE fu 30 1 rfl (fun _=>rfl) (c,self,n,t,made) k_ h_ rfl
 simp only[fu,RR,ah,ai] at h
 exact h
theorem O1{z0 z1 z2 z3 z4 z5 z6 z7:Int}{z8:Bool}{z9:Int}{y0:List Peer}{y1:List Topic}{y2:List Call}{y3 y4:Int}{y5:List Mark}{y6:List Mark2}{y7:Int}:oq [I z0,I z1,I z2,I z3,I z4,I z5,I z6,I z7,bb z8,I z9,L y0,L y1,L y2,I y3,I y4,L y5,L y6,I y7]=some [bb true]:=zh (F:=cX) (a:=((Config.mk z0 z1 z2 z3 z4 z5 z6),z7,(Node.mk z8 z9 y0 y1 y2 y3 y4 y5 y6),y7)) (fun _=>rfl) trivial
theorem LQ{z0 z1 z2 z3 z4 z5 z6 z7:Int}{z8:Bool}{z9:Int}{y0:List Peer}{y1:List Topic}{y2:List Call}{y3 y4:Int}{y5:List Mark}{y6:List Mark2}{y7 y8:Int}:mZ [I z0,I z1,I z2,I z3,I z4,I z5,I z6,I z7,bb z8,I z9,L y0,L y1,L y2,I y3,I y4,L y5,L y6,I y7,I y8]=some [bb true]:=zh (F:=cm) (a:=((Config.mk z0 z1 z2 z3 z4 z5 z6),z7,(Node.mk z8 z9 y0 y1 y2 y3 y4 y5 y6),y7,y8)) (fun _=>rfl) trivial
theorem Pj{z0 z1 z2 z3 z4 z5 z6 z7:Int}{z8:Bool}{z9:Int}{y0:List Peer}{y1:List Topic}{y2:List Call}{y3 y4:Int}{y5:List Mark}{y6:List Mark2}{y7:Int}:pm [I z0,I z1,I z2,I z3,I z4,I z5,I z6,I z7,bb z8,I z9,L y0,L y1,L y2,I y3,I y4,L y5,L y6,I y7]=some [bb true]:=zh (F:=dq) (a:=((Config.mk z0 z1 z2 z3 z4 z5 z6),z7,(Node.mk z8 z9 y0 y1 y2 y3 y4 y5 y6),y7)) (fun _=>rfl) trivial
theorem O3{z0 z1 z2:Int}:ot [I z0,I z1,I z2]=some [bb true]:=zh (F:=dU) (a:=(z0,z1,z2)) (fun _=>rfl) trivial
theorem O4{z0 z1 z2 z3 z4 z5 z6 z7:Int}{z8:Bool}{z9:Int}{y0:List Peer}{y1:List Topic}{y2:List Call}{y3 y4:Int}{y5:List Mark}{y6:List Mark2}{y7 y8:Int}:ou [I z0,I z1,I z2,I z3,I z4,I z5,I z6,I z7,bb z8,I z9,L y0,L y1,L y2,I y3,I y4,L y5,L y6,I y7,I y8]=some [bb true]:=zh (F:=cY) (a:=((Config.mk z0 z1 z2 z3 z4 z5 z6),z7,(Node.mk z8 z9 y0 y1 y2 y3 y4 y5 y6),y7,y8)) (fun _=>rfl) trivial
theorem O5{z0 z1 z2 z3 z4 z5 z6 z7:Int}{z8:Bool}{z9:Int}{y0:List Peer}{y1:List Topic}{y2:List Call}{y3 y4:Int}{y5:List Mark}{y6:List Mark2}{y7 y8 y9:Int}:ov [I z0,I z1,I z2,I z3,I z4,I z5,I z6,I z7,bb z8,I z9,L y0,L y1,L y2,I y3,I y4,L y5,L y6,I y7,I y8,I y9]=some [bb true]:=zh (F:=cZ) (a:=((Config.mk z0 z1 z2 z3 z4 z5 z6),z7,(Node.mk z8 z9 y0 y1 y2 y3 y4 y5 y6),y7,y8,y9)) (fun _=>rfl) trivial
theorem LR{l:List Item}{want window x_seq x_value:Int}(h:False):pn [L l,I want,I window,I x_seq,I x_value]=some [L l,I 0]:=mF (a:=(l,want,window,x_seq,x_value)) (by rintro ⟨_,_,_,_,_⟩ ⟨_,_,_,_,_⟩ h;simpa[fC,vL] using h) h
theorem LS{l:List Item}{want window x_seq x_value:Int}{k_:PV→PV→Prop}(h:False):CALL ρ 177 [L l,I want,I window,I x_seq,I x_value] 2 k_=k_ (L l) (I 0):=mG (ρ:=ρ) (K:=177) (m:=2) (k:=k_) (LR h) rfl
theorem LT{l:List Item}{want window x_seq x_value:Int}(h:False):po [L l,I want,I window,I x_seq,I x_value]=some [L l,I 0]:=mF (a:=(l,want,window,x_seq,x_value)) (by rintro ⟨_,_,_,_,_⟩ ⟨_,_,_,_,_⟩ h;simpa[fC,vL] using h) h
theorem LU{l:List Item}{want window x_seq x_value:Int}{k_:PV→PV→Prop}(h:False):CALL ρ 189 [L l,I want,I window,I x_seq,I x_value] 2 k_=k_ (L l) (I 0):=mG (ρ:=ρ) (K:=189) (m:=2) (k:=k_) (LT h) rfl
end Go.Xt
