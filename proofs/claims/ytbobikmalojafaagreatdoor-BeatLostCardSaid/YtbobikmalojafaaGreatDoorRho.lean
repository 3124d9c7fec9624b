/- Steps towards the statements of this seat; the conditions stand in each theorem. -/
import Derived.Test.YtbobikmalojafaaGreatDoorSpecs
set_option maxRecDepth 100000
set_option linter.unusedVariables false
set_option linter.unusedSimpArgs false
namespace Go.Xt
set_option linter.defProp false
def kw:Int→Prop×List PV×List PV:=mkF fun n=>(True,[bb (isN n)])
def gv:Int→Prop×List PV×List PV:=mkF fun n=>(True,[I (if isN n=true then nn n else 0),I (if isN n=true then 0 else 1)])
def fx:Int→Prop×List PV×List PV:=mkF fun t=>(True,[I (if isT t=true then tt t else 0),I (if isT t=true then 0 else 1)])
def kx:Int×Int→Prop×List PV×List PV:=mkF fun (k,n)=>(0≤k∧k<4611686018427387904∧0≤n∧n<4611686018427387904,[I (far k n)])
def il:Int→Prop×List PV×List PV:=mkF fun n=>(isN n=true,[I (nn n)])
def fS:Int→Prop×List PV×List PV:=mkF fun t=>(isT t=true,[I (tt t)])
def fc:Int×Int→Prop×List PV×List PV:=mkF fun (k,n)=>(0≤k∧k<4611686018427387904∧0≤n∧n<4611686018427387904,[I (far k n)])
def iQ:Int×Int→Prop×List PV×List PV:=mkF fun (t,n)=>(True,[I (if (isT t&&isN n)=true then gap t n else 0),I (if (isT t&&isN n)=true then 0 else 1)])
def eD:Int×Int×Int→Prop×List PV×List PV:=mkF fun (t,a,b)=>(True,[bb (cq t a b)])
def cJ:Int→Prop×List PV×List PV:=mkF fun t=>(True,[bb (isT t)])
def dE:Int→Prop×List PV×List PV:=mkF fun n=>(True,[bb (isN n)])
def jw:Int×Int→Prop×List PV×List PV:=mkF fun (t,n)=>(isT t=true∧isN n=true,[I (gap t n)])
def dF:Int×Int×Int→Prop×List PV×List PV:=mkF fun (t,a,b)=>(True,[bb (cq t a b)])
def gl:(List Int)→Prop×List PV×List PV:=mkF fun l=>(True,[bb (l.all isN)])
def dQ:Int×Int×(List Int)→Prop×List PV×List PV:=mkF fun (t,self,l)=>(True,[bb (lx t self l)])
def dR:Int×Int×(List Int)×Int→Prop×List PV×List PV:=mkF fun (t,self,l,depth)=>(True,[I (chk t self l depth)])
def dS:Int×Int×(List Int)×Int→Prop×List PV×List PV:=mkF fun (t,self,l,depth)=>(isT t=true∧isN self=true,[I (HI t self l depth)])
def aP:(List Int)×Int→Prop×List PV×List PV:=mkF fun (l,n)=>(True,[bb (l.contains n)])
noncomputable def eR:List PV→Option (List PV):=qS (fun (l:(List Int))=>l.length<4611686018427387904) (fun (l:(List Int))=>[L l]) (fun (l:(List Int))=>[L (jD l)])
noncomputable def cY:List PV→Option (List PV):=qS (fun (l:(List Int))=>l.length<4611686018427387904) (fun (l:(List Int))=>[L l]) (fun (l:(List Int))=>[L (bd l)])
def ng:Int→Prop×List PV×List PV:=mkF fun k=>(True,[bb (isK k)])
def iR:Int×Int→Prop×List PV×List PV:=mkF fun (k,bits)=>(True,[I (if (isK k&&decide (0≤bits)&&decide (bits≤61))=true then far (2 ^ bits.toNat) k else 0),I (if (isK k&&decide (0≤bits)&&decide (bits≤61))=true then 0 else 1)])
def dT:Int×(List Int)→Prop×List PV×List PV:=mkF fun (t,l)=>(True,[I (ly t l).1,I (ly t l).2])
def cZ:(List Int)×Int→Prop×List PV×List PV:=mkF fun (live,self)=>(True,[I (BD live self)])
def da:(List Int)×Int→Prop×List PV×List PV:=mkF fun (live,k)=>(live.all isN=true∧0≤k∧k<4611686018427387904,[I (pO live k)])
def db:(List Int)×Int→Prop×List PV×List PV:=mkF fun (live,self)=>(live.all isN=true∧isN self=true,[I (dB live self)])
def co:(List Int)×Int→Prop×List PV×List PV:=mkF fun (live,self)=>(live.all isN=true∧isN self=true∧live≠[],[L (hD live self)])
def dU:Int×(List Int)×Int→Prop×List PV×List PV:=mkF fun (t,live,self)=>(live.all isN=true∧isN self=true∧live≠[],[I (br t live self)])
def dc:Int×(List Int)×Int→Prop×List PV×List PV:=mkF fun (t,live,self)=>(True,[I (lW t live self)])
def dV:Int×(List Int)×Int→Prop×List PV×List PV:=mkF fun (t,live,self)=>(True,[I (if lW t live self=0 then max (br t live self) 0 else 0),bb (decide (lW t live self=0)&&decide (0≤br t live self)),I (lW t live self)])
noncomputable def kV:List PV→Option (List PV):=qS (fun (_:ByteArray×Int×Int×Int×Int)=>True) (fun (((s,n,lo,hi,why)):ByteArray×Int×Int×Int×Int)=>[.str s,I n,I lo,I hi,I why]) (fun (((s,n,lo,hi,why)):ByteArray×Int×Int×Int×Int)=>[E ⟨false,if n<lo∨hi<n then [why] else []⟩])
noncomputable def mL:List PV→Option (List PV):=qS (fun (xs:(List Er))=>xs≠[]∧xs.length≤1000∧ ∀x∈xs,x.j=false) (fun (xs:(List Er))=>[L xs]) (fun (xs:(List Er))=>[E ⟨true,xs.flatMap (·.l)⟩])
noncomputable def kW:List PV→Option (List PV):=qS (fun (x:Er)=>x.l.length≤1000) (fun (x:Er)=>[E x]) (fun (x:Er)=>[I (fv x.l)])
def cK:Config→Prop×List PV×List PV:=mkF fun c=>(True,[E ⟨true,lA c⟩])
def cL:Config→Prop×List PV×List PV:=mkF fun c=>(True,[I (if bt c=true then 0 else 13)])
def iS:Int×Int×Int→Prop×List PV×List PV:=mkF fun (n,lo,hi)=>(True,[bb (decide (lo≤n)&&decide (n≤hi))])
def dG:Config→Prop×List PV×List PV:=mkF fun c=>(True,[bb (bt c)])
def eE:Int→Prop×List PV×List PV:=mkF fun e=>(True,[I (if ep e=true then 0 else 1)])
def gw:Int→Prop×List PV×List PV:=mkF fun e=>(True,[I (if ep e=true then e % 16 else 0),I (if ep e=true then 0 else 1)])
def nh:Int×Int×Int→Prop×List PV×List PV:=mkF fun (n,lo,hi)=>(True,[bb (rng n lo hi)])
def eF:Int→Prop×List PV×List PV:=mkF fun n=>(True,[bb (cnt n)])
def gx:Int→Prop×List PV×List PV:=mkF fun n=>(True,[bb (val n)])
def ky:Int×Int×Int→Prop×List PV×List PV:=mkF fun (n,lo,hi)=>(True,[bb (rng n lo hi)])
def iT:Int×Int×Int→Prop×List PV×List PV:=mkF fun (n,lo,hi)=>(True,[bb (rng n lo hi)])
def iU:Int×Int×Int→Prop×List PV×List PV:=mkF fun (n,lo,hi)=>(True,[bb (rng n lo hi)])
def eG:Int→Prop×List PV×List PV:=mkF fun n=>(True,[bb (val n)])
def eH:Int→Prop×List PV×List PV:=mkF fun n=>(True,[bb (cnt n)])
def eI:Int→Prop×List PV×List PV:=mkF fun e=>(True,[bb (ep e)])
def fy:Peer→Prop×List PV×List PV:=mkF fun p=>(True,[bb (jE p)])
def dW:(List Peer)→Prop×List PV×List PV:=mkF fun l=>(True,[I (if aT l=true then 0 else 1)])
def de:(List Peer)→Prop×List PV×List PV:=mkF fun l=>(True,[bb (aT l)])
def fA:Int×Int×Kid→Prop×List PV×List PV:=mkF fun (t,self,k)=>(True,[bb (cq t self k.node&&cnt k.inc&&rng k.age 0 6)])
def dX:Int×Int×Int×(List Kid)→Prop×List PV×List PV:=mkF fun (t,self,limit,l)=>(True,[I (if eW t self limit l=true then 0 else 1)])
def dY:Int×Int×Int×(List Kid)→Prop×List PV×List PV:=mkF fun (t,self,limit,l)=>(True,[bb (eW t self limit l)])
def dZ:(List Item)×Int→Prop×List PV×List PV:=mkF fun (l,want)=>(cnt want=true∧l.length≤16,[bb (decide (l.length<want)&&jF (want-l.length) l)])
def ec:(List Item)×Int×Int→Prop×List PV×List PV:=mkF fun (l,want,limit)=>(True,[I (if pP l want limit=true then 0 else 1)])
def ed:(List Item)×Int×Int→Prop×List PV×List PV:=mkF fun (l,want,limit)=>(True,[bb (pP l want limit)])
def fB:Int×Int×Int→Prop×List PV×List PV:=mkF fun (seq,want,window)=>(cnt want=true∧rng window 1 16=true,[bb (decide (want<seq)&&decide (seq<want+window)&&decide (seq<1073741824))])
def df:(List Item)×Int×Int→Prop×List PV×List PV:=mkF fun (l,want,window)=>(True,[I (if lB l want window=true then 0 else 1)])
def cA:(List Item)×Int×Int→Prop×List PV×List PV:=mkF fun (l,want,window)=>(True,[bb (lB l want window)])
def eJ:Event→Prop×List PV×List PV:=mkF fun x=>(True,[I (if iG x=true then 0 else 1)])
def eK:Event→Prop×List PV×List PV:=mkF fun x=>(True,[bb (iG x)])
def dg:(List Event)×Int→Prop×List PV×List PV:=mkF fun (l,limit)=>(True,[I (if cb l limit=true then 0 else 1)])
def dh:(List Event)×Int→Prop×List PV×List PV:=mkF fun (l,limit)=>(True,[bb (cb l limit)])
def gy:Stream→Prop×List PV×List PV:=mkF fun s=>(True,[bb (kc s)])
def ee:Config×Stream→Prop×List PV×List PV:=mkF fun (c,s)=>(True,[bb (hR c s)])
def ef:Config×Stream×(List Event)→Prop×List PV×List PV:=mkF fun (c,s,q)=>(True,[I (if bt c=true then (if hU c s q=true then 0 else 1) else 13)])
def cB:Config×Stream→Prop×List PV×List PV:=mkF fun (c,s)=>(True,[bb (hR c s)])
def eg:Config×Stream×(List Event)→Prop×List PV×List PV:=mkF fun (c,s,q)=>(True,[bb (hU c s q)])
def eh:Int×Int×Int→Prop×List PV×List PV:=mkF fun (t,self,n)=>(True,[bb (dw t self n)])
def ei:Int×Int×Int→Prop×List PV×List PV:=mkF fun (t,self,n)=>(True,[bb (dw t self n)])
def dH:Int×Topic→Prop×List PV×List PV:=mkF fun (self,x)=>(True,[bb (jG self x)])
def cC:Topic→Prop×List PV×List PV:=mkF fun x=>(0≤x.parent∧x.parent≤8,[bb (hZ x)])
def dj:Config×Int×Int×Topic→Prop×List PV×List PV:=mkF fun (c,t,self,x)=>(bt c=true,[bb (ap c t self x)])
def dk:Config×Int×Int×Topic→Prop×List PV×List PV:=mkF fun (c,t,self,x)=>(True,[I (if bt c=true then (if (eX c t self&&ap c t self x)=true then 0 else 1) else 13)])
def dl:Config×Int×Int×Topic→Prop×List PV×List PV:=mkF fun (c,t,self,x)=>(bt c=true∧eX c t self=true,[bb (ap c t self x)])
def ej:Config×Node→Prop×List PV×List PV:=mkF fun (c,n)=>(bt c=true,[bb (bD c n.asks 0 n.calls&&decide (n.calls.length≤40))])
def gz:Mark→Prop×List PV×List PV:=mkF fun m=>(True,[bb (kL m)])
def fC:Config×Mark2→Prop×List PV×List PV:=mkF fun (c,x)=>(bt c=true,[bb (kd c x)])
def ek:Config×Int×Node→Prop×List PV×List PV:=mkF fun (c,self,n)=>(bt c=true∧rng self 0 (c.nodes-1)=true,[bb (jH c self n)])
def eo:Config×Int×Node→Prop×List PV×List PV:=mkF fun (c,self,n)=>(True,[I (ba c self n)])
def eq:Config×Int×Node→Prop×List PV×List PV:=mkF fun (c,self,n)=>(bt c=true∧rng self 0 (c.nodes-1)=true,[bb (jH c self n)])
def dm:(List Item)×(List Item)→Prop×List PV×List PV:=mkF fun (a,b)=>(True,[bb (decide (a=b))])
def cD:Stream×Stream→Prop×List PV×List PV:=mkF fun (a,b)=>(True,[bb (decide (a=b))])
def dp:Stream×(List Event)→Prop×List PV×List PV:=mkF fun (s,q)=>(True,[bb (sN s q)])
noncomputable def yh:=fnT dp
def dq:Topic→Prop×List PV×List PV:=mkF fun x=>(True,[bb (dO x)])
noncomputable def yi:=fnT dq
def dr:Node→Prop×List PV×List PV:=mkF fun n=>(True,[bb (bj n)])
noncomputable def yj:=fnT dr
def im:Unit→Prop×List PV×List PV:=fun _=>(True,[],[I 8,I 4,I 2,I 8,I 8,I 8,I 16])
noncomputable def BH:=fnT im
def aA:(List Peer)→Prop×List PV×List PV:=mkF fun l=>(l.length≤1000000,[L l])
def aB:(List Call)→Prop×List PV×List PV:=mkF fun l=>(l.length≤1000000,[L l])
def aC:(List Mark)→Prop×List PV×List PV:=mkF fun l=>(l.length≤1000000,[L l])
def ax:(List Mark2)→Prop×List PV×List PV:=mkF fun l=>(l.length≤1000000,[L l])
def aG:(List Kid)→Prop×List PV×List PV:=mkF fun l=>(l.length≤1000000,[L l])
def ay:(List Event)→Prop×List PV×List PV:=mkF fun l=>(l.length≤1000000,[L l])
def aD:(List Item)→Prop×List PV×List PV:=mkF fun l=>(l.length≤1000000,[L l])
def aX:(List Int)→Prop×List PV×List PV:=mkF fun l=>(l.length≤1000000,[L l])
def fD:Topic→Prop×List PV×List PV:=mkF fun x=>(dO x=false,Row.row x)
def gA:Event→Prop×List PV×List PV:=mkF fun x=>(True,Row.row (pe x)++[bb (nb x)])
def fe:(List Event)×Int×Event→Prop×List PV×List PV:=mkF fun (l,limit,x)=>(True,[L (wm l limit x).1,I (wm l limit x).2])
def fg:(List Event)×Int×Event→Prop×List PV×List PV:=mkF fun (l,limit,x)=>(l.length≤1000000,[L (tJ l limit x)])
def fh:Node×Int→Prop×List PV×List PV:=mkF fun (n,o)=>(True,[bb (qU n o)])
def er:(List Peer)×Int→Prop×List PV×List PV:=mkF fun (l,n)=>(True,[I (ib l n)])
def dK:(List Peer)×Int→Prop×List PV×List PV:=mkF fun (l,self)=>(True,[L (if ib l self=0 then cz l self else []),I (ib l self)])
def fi:Int×Node×Int→Prop×List PV×List PV:=mkF fun (self,n,t)=>(aT n.peers=true∧rng self 0 (n.peers.length-1)=true∧isT t=true,[I (br t (cz n.peers self) self)])
def dt:Config×Int×Node→Prop×List PV×List PV:=mkF fun (c,self,n)=>(True,[I (ba c self n)])
def iV:Msg→Prop×List PV×List PV:=mkF fun m=>(True,[bb (rJ m)])
def et:(List Int)→Prop×List PV×List PV:=mkF fun l=>(True,[bb (decide l.Nodup)])
def iW:(List Int)→Prop×List PV×List PV:=mkF fun l=>(True,[bb (ri l)])
def gB:Msg→Prop×List PV×List PV:=mkF fun m=>(True,[bb (tK m)])
def gC:Msg→Prop×List PV×List PV:=mkF fun m=>(True,[bb (tL m)])
noncomputable def eS:List PV→Option (List PV):=qS (fun (((l,n)):(List Int)×Int)=>l=[]∧0≤n∧n≤1000000) (fun (((l,n)):(List Int)×Int)=>[L l,I n]) (fun (((l,n)):(List Int)×Int)=>[L l])
def aO:(List (List Int))→Prop×List PV×List PV:=mkF fun ls=>(ls.flatten.length≤1000000,[L ls.flatten])
def gm:Msg→Prop×List PV×List PV:=mkF fun m=>(True,Row.row (jT m).1++[bb (jT m).2])
def fj:Msg→Prop×List PV×List PV:=mkF fun m=>(True,[I (if lC m=true then 0 else 5)])
def cQ:Int×Int×Int×(List Kid)→Prop×List PV×List PV:=mkF fun (t,self,limit,l)=>(eW t self limit l=true,[L (cm l),I 0])
def cS:(List Peer)→Prop×List PV×List PV:=mkF fun l=>(aT l=true,[L (aL l),I 0])
def fE:Int×Int→Prop×List PV×List PV:=mkF fun (n,top)=>(isN n=true∧0≤top∧top≤1073741824,[I (jv n top),I (if jv n top=0 then 11 else 0)])
def fF:Int×Int→Prop×List PV×List PV:=mkF fun (e,n)=>(True,Row.row (Hg e n))
def fG:Stream→Prop×List PV×List PV:=mkF fun s=>(True,[bb (decide (s.want<s.known))])
def cM:Topic→Prop×List PV×List PV:=mkF fun x=>(dO x=false,Row.row (fM x))
def eu:Config×Int×Int×Topic→Prop×List PV×List PV:=mkF fun (c,t,self,x)=>(wo c t self x=0,Row.row (fM x)++[I 0])
def du:Config×Int×Int×Topic→Prop×List PV×List PV:=mkF fun (c,t,self,x)=>(wo c t self x=0,Row.row ((fw self x).1)++[I (fw self x).2])
def fk:Config×Int×Int×Topic→Prop×List PV×List PV:=mkF fun (c,t,self,x)=>(wo c t self x=0,Row.row ({ x with root:=0 })++[I 0])
def cN:Topic→Prop×List PV×List PV:=mkF fun x=>(True,[bb (aI x)])
def iX:Msg→Prop×List PV×List PV:=mkF fun m=>(m.path.length≤30∧m.todo.length≤30,Row.row (m))
def fm:Int×Node×(List Msg)→Prop×List PV×List PV:=mkF fun (self,n,l)=>(l.length≤1000∧n.peers.length≤12∧ ∀m∈l,m.path.length≤30∧m.todo.length≤30,[L (wq self n l),bb (jI self n l).isSome])
def fH:Config×Int×Node×(List Msg)→Prop×List PV×List PV:=mkF fun (c,self,n,l)=>(bj n=false∧l.length≤1000∧ ∀m∈l,m.path.length≤30∧m.todo.length≤30,[L (tM c self n l).1,I (tM c self n l).2])
def gD:Config×Int×Node→Prop×List PV×List PV:=mkF fun (c,self,n)=>(bj n=false,Row.row ((eV c self n).1)++[L (eV c self n).2.1,I (eV c self n).2.2])
def fT:Unit→Prop×List PV×List PV:=fun _=>(True,[],[bb true])
noncomputable def yk:=fnT fT
def ci:Config×Int×Node→Prop×List PV×List PV:=mkF fun (c,self,n)=>(True,[bb true])
noncomputable def io:=fnT ci
def bZ:Config×Int×Node→Prop×List PV×List PV:=mkF fun (c,self,n)=>(True,[bb true])
noncomputable def gn:=fnT bZ
def ck:Config×Int×Node→Prop×List PV×List PV:=mkF fun (c,self,n)=>(True,[bb true])
noncomputable def iq:=fnT ck
def dI:Int×Int→Prop×List PV×List PV:=mkF fun (ticks,t)=>(True,[bb true])
noncomputable def iY:=fnT dI
def dL:(List Peer)×Int×Int→Prop×List PV×List PV:=mkF fun (l,o,inc)=>(aT l=true∧rng o 0 (l.length-1)=true∧cnt inc=true,[L (zX l o inc),I 0])
def fo:Node→Prop×List PV×List PV:=mkF fun n=>(bj n=false,Row.row (n))
noncomputable def ρ:Fns:=fun K=>match K with
 | 155=>fnT kw
 | 159=>fnT gv
 | 89=>fnT fx
 | 160=>fnT kx
 | 196=>fnT il
 | 195=>fnT fS
 | 194=>fnT fc
 | 93=>fnT iQ
 | 34=>fnT eD
 | 68=>fnT cJ
 | 66=>fnT dE
 | 146=>fnT jw
 | 151=>fnT dF
 | 90=>fnT gl
 | 236=>fnT dQ
 | 218=>fnT dR
 | 176=>fnT dS
 | 50=>fnT aP
 | 200=>eR
 | 201=>cY
 | 223=>fnT ng
 | 198=>fnT iR
 | 32=>fnT dT
 | 156=>fnT cZ
 | 199=>fnT da
 | 158=>fnT db
 | 157=>fnT co
 | 92=>fnT dU
 | 91=>fnT dc
 | 33=>fnT dV
 | 182=>kV
 | 181=>mL
 | 122=>kW
 | 123=>fnT cK
 | 56=>fnT cL
 | 60=>fnT iS
 | 53=>fnT dG
 | 253=>fnT eE
 | 235=>fnT gw
 | 101=>fnT nh
 | 95=>fnT eF
 | 43=>fnT gx
 | 42=>fnT ky
 | 54=>fnT iT
 | 173=>fnT iU
 | 19=>fnT eG
 | 229=>fnT eH
 | 174=>fnT eI
 | 187=>fnT fy
 | 129=>fnT dW
 | 120=>fnT de
 | 221=>fnT fA
 | 189=>fnT dX
 | 177=>fnT dY
 | 263=>fnT dZ
 | 255=>fnT ec
 | 230=>fnT ed
 | 264=>fnT fB
 | 256=>fnT df
 | 231=>fnT cA
 | 205=>fnT eJ
 | 232=>fnT eK
 | 204=>fnT dg
 | 208=>fnT dh
 | 254=>fnT gy
 | 237=>fnT ee
 | 219=>fnT ef
 | 207=>fnT cB
 | 178=>fnT eg
 | 215=>fnT eh
 | 175=>fnT ei
 | 216=>fnT dH
 | 217=>fnT cC
 | 183=>fnT dj
 | 125=>fnT dk
 | 121=>fnT dl
 | 124=>fnT ej
 | 128=>fnT gz
 | 132=>fnT fC
 | 57=>fnT ek
 | 16=>fnT eo
 | 55=>fnT eq
 | 94=>fnT dm
 | 35=>fnT cD
 | 97=>yh
 | 39=>yi
 | 9=>yj
 | 36=>BH
 | 96=>fnT aA
 | 103=>fnT aB
 | 104=>fnT aC
 | 105=>fnT ax
 | 162=>fnT aG
 | 163=>fnT ay
 | 203=>fnT aD
 | 107=>fnT aX
 | 102=>fnT fD
 | 206=>fnT gA
 | 172=>fnT fe
 | 119=>fnT fg
 | 109=>fnT fh
 | 88=>fnT er
 | 31=>fnT dK
 | 166=>fnT fi
 | 15=>fnT dt
 | 111=>fnT iV
 | 170=>fnT et
 | 167=>fnT iW
 | 168=>fnT gB
 | 169=>fnT gC
 | 114=>eS
 | 49=>fnT aO
 | 110=>fnT gm
 | 47=>fnT fj
 | 138=>fnT cQ
 | 74=>fnT cS
 | 191=>fnT fE
 | 192=>fnT fF
 | 193=>fnT fG
 | 238=>fnT cM
 | 222=>fnT eu
 | 141=>fnT du
 | 142=>fnT fk
 | 139=>fnT cN
 | 137=>fnT iX
 | 73=>fnT fm
 | 26=>fnT fH
 | 27=>fnT gD
 | 28=>yk
 | 5=>io
 | 6=>gn
 | 7=>iq
 | 8=>iY
 | 38=>fnT dL
 | 44=>fnT fo
 | _=>fun _=>none
theorem CE{α:Type}[Enc α](F:α→Prop×List PV×List PV)(K m:Nat)(e:ρ K=fnT F)(hg: ∀a,(F a).2.1=Enc.enc a)(a:α)(k:sJ m)(hp:(F a).1)(hm:(F a).2.2.length=m):CALL ρ K (F a).2.1 m k=app m k (F a).2.2:=rG e hg a hp hm
def cO:=by
 have h:=fun n k_=>CE kw 155 1 rfl (fun _=>rfl) n k_ trivial rfl
 simp only[kw,RR,ah,ai] at h
 exact h
def lF:=by
 have h:=fun n k_=>CE gv 159 2 rfl (fun _=>rfl) n k_ trivial rfl
 simp only[gv,RR,ah,ai] at h
 exact h
def oH:=by
 have h:=fun t k_=>CE fx 89 2 rfl (fun _=>rfl) t k_ trivial rfl
 simp only[fx,RR,ah,ai] at h
 exact h
def qM:=by
 have h:=fun k  n k_ h_=>CE kx 160 1 rfl (fun _=>rfl) (k,n) k_ h_ rfl
 simp only[kx,RR,ah,ai] at h
 exact h
theorem BI{z0:Int}{k_:PV→Prop}(h:isN z0=true):CALL ρ 196 [I z0] 1 k_=k_ (I (nn z0)):=rG (F:=il) rfl (fun _=>rfl) z0 h rfl
theorem yl{z0:Int}{k_:PV→Prop}(h:isT z0=true):CALL ρ 195 [I z0] 1 k_=k_ (I (tt z0)):=rG (F:=fS) rfl (fun _=>rfl) z0 h rfl
theorem wv{z0 z1:Int}{k_:PV→Prop}(h:0≤z0∧z0<4611686018427387904∧0≤z1∧z1<4611686018427387904):CALL ρ 194 [I z0,I z1] 1 k_=k_ (I (far z0 z1)):=rG (F:=fc) rfl (fun _=>rfl) (z0,z1) h rfl
def kX:=by
 have h:=fun t  n k_=>CE iQ 93 2 rfl (fun _=>rfl) (t,n) k_ trivial rfl
 simp only[iQ,RR,ah,ai] at h
 exact h
def cd:=by
 have h:=fun t  a  b k_=>CE eD 34 1 rfl (fun _=>rfl) (t,a,b) k_ trivial rfl
 simp only[eD,RR,ah,ai] at h
 exact h
def oZ:=by
 have h:=fun t k_=>CE cJ 68 1 rfl (fun _=>rfl) t k_ trivial rfl
 simp only[cJ,RR,ah,ai] at h
 exact h
def ir:=by
 have h:=fun n k_=>CE dE 66 1 rfl (fun _=>rfl) n k_ trivial rfl
 simp only[dE,RR,ah,ai] at h
 exact h
theorem qn{z0 z1:Int}{k_:PV→Prop}(h:isT z0=true∧isN z1=true):CALL ρ 146 [I z0,I z1] 1 k_=k_ (I (gap z0 z1)):=rG (F:=jw) rfl (fun _=>rfl) (z0,z1) h rfl
def kY:=by
 have h:=fun t  a  b k_=>CE dF 151 1 rfl (fun _=>rfl) (t,a,b) k_ trivial rfl
 simp only[dF,RR,ah,ai] at h
 exact h
def rT:=by
 have h:=fun l k_=>CE gl 90 1 rfl (fun _=>rfl) l k_ trivial rfl
 simp only[gl,RR,ah,ai] at h
 exact h
def BJ:=by
 have h:=fun t  self  l k_=>CE dQ 236 1 rfl (fun _=>rfl) (t,self,l) k_ trivial rfl
 simp only[dQ,RR,ah,ai] at h
 exact h
def BK:=by
 have h:=fun t  self  l  depth k_=>CE dR 218 1 rfl (fun _=>rfl) (t,self,l,depth) k_ trivial rfl
 simp only[dR,RR,ah,ai] at h
 exact h
def BL:=by
 have h:=fun t  self  l  depth k_ h_=>CE dS 176 1 rfl (fun _=>rfl) (t,self,l,depth) k_ h_ rfl
 simp only[dS,RR,ah,ai] at h
 exact h
def bi:=by
 have h:=fun l  n k_=>CE aP 50 1 rfl (fun _=>rfl) (l,n) k_ trivial rfl
 simp only[aP,RR,ah,ai] at h
 exact h
theorem pf{l:List Int}(h:l.length<4611686018427387904):eR [L l]=some [L (jD l)]:=nK (a:=l) (by intro a b h;simpa[eU,wj] using h) h
theorem pg{l:List Int}{k_:PV→Prop}(h:l.length<4611686018427387904):CALL ρ 200 [L l] 1 k_=k_ (L (jD l)):=nL (ρ:=ρ) (K:=200) (m:=1) (k:=k_) (pf h) rfl
theorem mM{l:List Int}(h:l.length<4611686018427387904):cY [L l]=some [L (bd l)]:=nK (a:=l) (by intro a b h;simpa[eU,wj] using h) h
theorem mN{l:List Int}{k_:PV→Prop}(h:l.length<4611686018427387904):CALL ρ 201 [L l] 1 k_=k_ (L (bd l)):=nL (ρ:=ρ) (K:=201) (m:=1) (k:=k_) (mM h) rfl
def IY:=by
 have h:=fun k k_=>CE ng 223 1 rfl (fun _=>rfl) k k_ trivial rfl
 simp only[ng,RR,ah,ai] at h
 exact h
def G5:=by
 have h:=fun k  bits k_=>CE iR 198 2 rfl (fun _=>rfl) (k,bits) k_ trivial rfl
 simp only[iR,RR,ah,ai] at h
 exact h
def oI:=by
 have h:=fun t  l k_=>CE dT 32 2 rfl (fun _=>rfl) (t,l) k_ trivial rfl
 simp only[dT,RR,ah,ai] at h
 exact h
def ym:=by
 have h:=fun live  self k_=>CE cZ 156 1 rfl (fun _=>rfl) (live,self) k_ trivial rfl
 simp only[cZ,RR,ah,ai] at h
 exact h
def yn:=by
 have h:=fun live  k k_ h_=>CE da 199 1 rfl (fun _=>rfl) (live,k) k_ h_ rfl
 simp only[da,RR,ah,ai] at h
 exact h
def yo:=by
 have h:=fun live  self k_ h_=>CE db 158 1 rfl (fun _=>rfl) (live,self) k_ h_ rfl
 simp only[db,RR,ah,ai] at h
 exact h
def uI:=by
 have h:=fun live  self k_ h_=>CE co 157 1 rfl (fun _=>rfl) (live,self) k_ h_ rfl
 simp only[co,RR,ah,ai] at h
 exact h
def BM:=by
 have h:=fun t  live  self k_ h_=>CE dU 92 1 rfl (fun _=>rfl) (t,live,self) k_ h_ rfl
 simp only[dU,RR,ah,ai] at h
 exact h
def yp:=by
 have h:=fun t  live  self k_=>CE dc 91 1 rfl (fun _=>rfl) (t,live,self) k_ trivial rfl
 simp only[dc,RR,ah,ai] at h
 exact h
def sP:=by
 have h:=fun t  live  self k_=>CE dV 33 3 rfl (fun _=>rfl) (t,live,self) k_ trivial rfl
 simp only[dV,RR,ah,ai] at h
 exact h
theorem ww{s:ByteArray}{n lo hi why:Int}:kV [.str s,I n,I lo,I hi,I why]=some [E ⟨false,if n<lo∨hi<n then [why] else []⟩]:=nK (a:=(s,n,lo,hi,why)) (by rintro ⟨_,_,_,_,_⟩ ⟨_,_,_,_,_⟩ h;simpa[eU,wj] using h) trivial
theorem wx{s:ByteArray}{n lo hi why:Int}{k_:PV→Prop}:CALL ρ 182 [.str s,I n,I lo,I hi,I why] 1 k_=k_ (E ⟨false,if n<lo∨hi<n then [why] else []⟩):=nL (ρ:=ρ) (K:=182) (m:=1) (k:=k_) (ww) rfl
theorem yq{xs:List Er}(h:xs≠[]∧xs.length≤1000∧ ∀x∈xs,x.j=false):mL [L xs]=some [E ⟨true,xs.flatMap (·.l)⟩]:=nK (a:=xs) (by intro a b h;simpa[eU,wj] using h) h
theorem rl{xs:List Er}{k_:PV→Prop}(h:xs≠[]∧xs.length≤1000∧ ∀x∈xs,x.j=false):CALL ρ 181 [L xs] 1 k_=k_ (E ⟨true,xs.flatMap (·.l)⟩):=nL (ρ:=ρ) (K:=181) (m:=1) (k:=k_) (yq h) rfl
theorem wy{x:Er}(h:x.l.length≤1000):kW [E x]=some [I (fv x.l)]:=nK (a:=x) (by intro a b h;simpa[eU,wj] using h) h
theorem wz{x:Er}{k_:PV→Prop}(h:x.l.length≤1000):CALL ρ 122 [E x] 1 k_=k_ (I (fv x.l)):=nL (ρ:=ρ) (K:=122) (m:=1) (k:=k_) (wy h) rfl
def uJ:=by
 have h:=bI fun c k_=>CE cK 123 1 rfl (fun _=>rfl) c k_ trivial rfl
 simp only[cK,RR,ah,ai] at h
 exact h
def jP:=by
 have h:=bI fun c k_=>CE cL 56 1 rfl (fun _=>rfl) c k_ trivial rfl
 simp only[cL,RR,ah,ai] at h
 exact h
def oJ:=by
 have h:=fun n  lo  hi k_=>CE iS 60 1 rfl (fun _=>rfl) (n,lo,hi) k_ trivial rfl
 simp only[iS,RR,ah,ai] at h
 exact h
def wA:=by
 have h:=bI fun c k_=>CE dG 53 1 rfl (fun _=>rfl) c k_ trivial rfl
 simp only[dG,RR,ah,ai] at h
 exact h
def ji:=by
 have h:=fun e k_=>CE eE 253 1 rfl (fun _=>rfl) e k_ trivial rfl
 simp only[eE,RR,ah,ai] at h
 exact h
def Ec:=by
 have h:=fun e k_=>CE gw 235 2 rfl (fun _=>rfl) e k_ trivial rfl
 simp only[gw,RR,ah,ai] at h
 exact h
def ni:=by
 have h:=fun n  lo  hi k_=>CE nh 101 1 rfl (fun _=>rfl) (n,lo,hi) k_ trivial rfl
 simp only[nh,RR,ah,ai] at h
 exact h
def aZ:=by
 have h:=fun n k_=>CE eF 95 1 rfl (fun _=>rfl) n k_ trivial rfl
 simp only[eF,RR,ah,ai] at h
 exact h
def dM:=by
 have h:=fun n k_=>CE gx 43 1 rfl (fun _=>rfl) n k_ trivial rfl
 simp only[gx,RR,ah,ai] at h
 exact h
def eM:=by
 have h:=fun n  lo  hi k_=>CE ky 42 1 rfl (fun _=>rfl) (n,lo,hi) k_ trivial rfl
 simp only[ky,RR,ah,ai] at h
 exact h
def wB:=by
 have h:=fun n  lo  hi k_=>CE iT 54 1 rfl (fun _=>rfl) (n,lo,hi) k_ trivial rfl
 simp only[iT,RR,ah,ai] at h
 exact h
def bP:=by
 have h:=fun n  lo  hi k_=>CE iU 173 1 rfl (fun _=>rfl) (n,lo,hi) k_ trivial rfl
 simp only[iU,RR,ah,ai] at h
 exact h
def jj:=by
 have h:=fun n k_=>CE eG 19 1 rfl (fun _=>rfl) n k_ trivial rfl
 simp only[eG,RR,ah,ai] at h
 exact h
def rm:=by
 have h:=fun n k_=>CE eH 229 1 rfl (fun _=>rfl) n k_ trivial rfl
 simp only[eH,RR,ah,ai] at h
 exact h
def mO:=by
 have h:=fun e k_=>CE eI 174 1 rfl (fun _=>rfl) e k_ trivial rfl
 simp only[eI,RR,ah,ai] at h
 exact h
def oK:=by
 have h:=Lg fun p k_=>CE fy 187 1 rfl (fun _=>rfl) p k_ trivial rfl
 simp only[fy,RR,ah,ai] at h
 exact h
def ke:=by
 have h:=fun l k_=>CE dW 129 1 rfl (fun _=>rfl) l k_ trivial rfl
 simp only[dW,RR,ah,ai] at h
 exact h
def yr:=by
 have h:=fun l k_=>CE de 120 1 rfl (fun _=>rfl) l k_ trivial rfl
 simp only[de,RR,ah,ai] at h
 exact h
def BN:=by
 have h:=fun t  self=>LS fun k k_=>CE fA 221 1 rfl (fun _=>rfl) (t,self,k) k_ trivial rfl
 simp only[fA,RR,ah,ai] at h
 exact h
def kf:=by
 have h:=fun t  self  limit  l k_=>CE dX 189 1 rfl (fun _=>rfl) (t,self,limit,l) k_ trivial rfl
 simp only[dX,RR,ah,ai] at h
 exact h
def BO:=by
 have h:=fun t  self  limit  l k_=>CE dY 177 1 rfl (fun _=>rfl) (t,self,limit,l) k_ trivial rfl
 simp only[dY,RR,ah,ai] at h
 exact h
def BP:=by
 have h:=fun l  want k_ h_=>CE dZ 263 1 rfl (fun _=>rfl) (l,want) k_ h_ rfl
 simp only[dZ,RR,ah,ai] at h
 exact h
def BQ:=by
 have h:=fun l  want  limit k_=>CE ec 255 1 rfl (fun _=>rfl) (l,want,limit) k_ trivial rfl
 simp only[ec,RR,ah,ai] at h
 exact h
def BR:=by
 have h:=fun l  want  limit k_=>CE ed 230 1 rfl (fun _=>rfl) (l,want,limit) k_ trivial rfl
 simp only[ed,RR,ah,ai] at h
 exact h
def BS:=by
 have h:=fun seq  want  window k_ h_=>CE fB 264 1 rfl (fun _=>rfl) (seq,want,window) k_ h_ rfl
 simp only[fB,RR,ah,ai] at h
 exact h
def yt:=by
 have h:=fun l  want  window k_=>CE df 256 1 rfl (fun _=>rfl) (l,want,window) k_ trivial rfl
 simp only[df,RR,ah,ai] at h
 exact h
def wC:=by
 have h:=fun l  want  window k_=>CE cA 231 1 rfl (fun _=>rfl) (l,want,window) k_ trivial rfl
 simp only[cA,RR,ah,ai] at h
 exact h
def ce:=by
 have h:=sO fun x k_=>CE eJ 205 1 rfl (fun _=>rfl) x k_ trivial rfl
 simp only[eJ,RR,ah,ai] at h
 exact h
def yu:=by
 have h:=sO fun x k_=>CE eK 232 1 rfl (fun _=>rfl) x k_ trivial rfl
 simp only[eK,RR,ah,ai] at h
 exact h
def rn:=by
 have h:=fun l  limit k_=>CE dg 204 1 rfl (fun _=>rfl) (l,limit) k_ trivial rfl
 simp only[dg,RR,ah,ai] at h
 exact h
def yv:=by
 have h:=fun l  limit k_=>CE dh 208 1 rfl (fun _=>rfl) (l,limit) k_ trivial rfl
 simp only[dh,RR,ah,ai] at h
 exact h
def Ed:=by
 have h:=ic fun s k_=>CE gy 254 1 rfl (fun _=>rfl) s k_ trivial rfl
 simp only[gy,RR,ah,ai] at h
 exact h
def BT:=by
 have h:=bI fun c=>ic fun s k_=>CE ee 237 1 rfl (fun _=>rfl) (c,s) k_ trivial rfl
 simp only[ee,RR,ah,ai] at h
 exact h
def BU:=by
 have h:=bI fun c=>ic fun s  q k_=>CE ef 219 1 rfl (fun _=>rfl) (c,s,q) k_ trivial rfl
 simp only[ef,RR,ah,ai] at h
 exact h
def wD:=by
 have h:=bI fun c=>ic fun s k_=>CE cB 207 1 rfl (fun _=>rfl) (c,s) k_ trivial rfl
 simp only[cB,RR,ah,ai] at h
 exact h
def BV:=by
 have h:=bI fun c=>ic fun s  q k_=>CE eg 178 1 rfl (fun _=>rfl) (c,s,q) k_ trivial rfl
 simp only[eg,RR,ah,ai] at h
 exact h
def BW:=by
 have h:=fun t  self  n k_=>CE eh 215 1 rfl (fun _=>rfl) (t,self,n) k_ trivial rfl
 simp only[eh,RR,ah,ai] at h
 exact h
def BX:=by
 have h:=fun t  self  n k_=>CE ei 175 1 rfl (fun _=>rfl) (t,self,n) k_ trivial rfl
 simp only[ei,RR,ah,ai] at h
 exact h
def wE:=by
 have h:=fun self=>gc fun x k_=>CE dH 216 1 rfl (fun _=>rfl) (self,x) k_ trivial rfl
 simp only[dH,RR,ah,ai] at h
 exact h
def wF:=by
 have h:=gc fun x k_ h_=>CE cC 217 1 rfl (fun _=>rfl) x k_ h_ rfl
 simp only[cC,RR,ah,ai] at h
 exact h
def yw:=by
 have h:=bI fun c  t  self=>gc fun x k_ h_=>CE dj 183 1 rfl (fun _=>rfl) (c,t,self,x) k_ h_ rfl
 simp only[dj,RR,ah,ai] at h
 exact h
def jk:=by
 have h:=bI fun c  t  self=>gc fun x k_=>CE dk 125 1 rfl (fun _=>rfl) (c,t,self,x) k_ trivial rfl
 simp only[dk,RR,ah,ai] at h
 exact h
def yx:=by
 have h:=bI fun c  t  self=>gc fun x k_ h_=>CE dl 121 1 rfl (fun _=>rfl) (c,t,self,x) k_ h_ rfl
 simp only[dl,RR,ah,ai] at h
 exact h
def BZ:=by
 have h:=bI fun c=>lX fun n k_ h_=>CE ej 124 1 rfl (fun _=>rfl) (c,n) k_ h_ rfl
 simp only[ej,RR,ah,ai] at h
 exact h
def Ee:=by
 have h:=Lh fun m k_=>CE gz 128 1 rfl (fun _=>rfl) m k_ trivial rfl
 simp only[gz,RR,ah,ai] at h
 exact h
def C0:=by
 have h:=bI fun c=>K0 fun x k_ h_=>CE fC 132 1 rfl (fun _=>rfl) (c,x) k_ h_ rfl
 simp only[fC,RR,ah,ai] at h
 exact h
def C1:=by
 have h:=bI fun c  self=>lX fun n k_ h_=>CE ek 57 1 rfl (fun _=>rfl) (c,self,n) k_ h_ rfl
 simp only[ek,RR,ah,ai] at h
 exact h
def kg:=by
 have h:=bI fun c  self=>lX fun n k_=>CE eo 16 1 rfl (fun _=>rfl) (c,self,n) k_ trivial rfl
 simp only[eo,RR,ah,ai] at h
 exact h
def C2:=by
 have h:=bI fun c  self=>lX fun n k_ h_=>CE eq 55 1 rfl (fun _=>rfl) (c,self,n) k_ h_ rfl
 simp only[eq,RR,ah,ai] at h
 exact h
def yy:=by
 have h:=fun a  b k_=>CE dm 94 1 rfl (fun _=>rfl) (a,b) k_ trivial rfl
 simp only[dm,RR,ah,ai] at h
 exact h
def qo:=by
 have h:=ic fun a=>ic fun b k_=>CE cD 35 1 rfl (fun _=>rfl) (a,b) k_ trivial rfl
 simp only[cD,RR,ah,ai] at h
 exact h
def yz:=by
 have h:=ic fun s  q k_=>CE dp 97 1 rfl (fun _=>rfl) (s,q) k_ trivial rfl
 simp only[dp,RR,ah,ai] at h
 exact h
def fU:=by
 have h:=gc fun x k_=>CE dq 39 1 rfl (fun _=>rfl) x k_ trivial rfl
 simp only[dq,RR,ah,ai] at h
 exact h
def mP:=by
 have h:=lX fun n k_=>CE dr 9 1 rfl (fun _=>rfl) n k_ trivial rfl
 simp only[dr,RR,ah,ai] at h
 exact h
theorem oL  {k_:PV→PV→PV→PV→PV→PV→PV→Prop}:CALL ρ 36 [] 7 k_=k_ (I 8) (I 4) (I 2) (I 8) (I 8) (I 8) (I 16):=FQ (F:=im) rfl (fun _ _ _=>rfl) () trivial rfl
def bR:=by
 have h:=fun l k_ h_=>CE aA 96 1 rfl (fun _=>rfl) l k_ h_ rfl
 simp only[aA,RR,ah,ai] at h
 exact h
def iu:=by
 have h:=fun l k_ h_=>CE aB 103 1 rfl (fun _=>rfl) l k_ h_ rfl
 simp only[aB,RR,ah,ai] at h
 exact h
def iv:=by
 have h:=fun l k_ h_=>CE aC 104 1 rfl (fun _=>rfl) l k_ h_ rfl
 simp only[aC,RR,ah,ai] at h
 exact h
def gp:=by
 have h:=fun l k_ h_=>CE ax 105 1 rfl (fun _=>rfl) l k_ h_ rfl
 simp only[ax,RR,ah,ai] at h
 exact h
def iZ:=by
 have h:=fun l k_ h_=>CE aG 162 1 rfl (fun _=>rfl) l k_ h_ rfl
 simp only[aG,RR,ah,ai] at h
 exact h
def bw:=by
 have h:=fun l k_ h_=>CE ay 163 1 rfl (fun _=>rfl) l k_ h_ rfl
 simp only[ay,RR,ah,ai] at h
 exact h
def iw:=by
 have h:=fun l k_ h_=>CE aD 203 1 rfl (fun _=>rfl) l k_ h_ rfl
 simp only[aD,RR,ah,ai] at h
 exact h
def ix:=by
 have h:=fun l k_ h_=>CE aX 107 1 rfl (fun _=>rfl) l k_ h_ rfl
 simp only[aX,RR,ah,ai] at h
 exact h
def kh:=by
 have h:=gc fun x k_ h_=>CE fD 102 16 rfl (fun _=>rfl) x k_ h_ rfl
 simp only[fD,RR,ah,ai] at h
 exact h
def Ef:=by
 have h:=sO fun x k_=>CE gA 206 7 rfl (fun _=>rfl) x k_ trivial rfl
 simp only[gA,RR,ah,ai] at h
 exact h
def Eg:=by
 have h:=fun l  limit=>sO fun x k_=>CE fe 172 2 rfl (fun _=>rfl) (l,limit,x) k_ trivial rfl
 simp only[fe,RR,ah,ai] at h
 exact h
def Eh:=by
 have h:=fun l  limit=>sO fun x k_ h_=>CE fg 119 1 rfl (fun _=>rfl) (l,limit,x) k_ h_ rfl
 simp only[fg,RR,ah,ai] at h
 exact h
def Ei:=by
 have h:=lX fun n  o k_=>CE fh 109 1 rfl (fun _=>rfl) (n,o) k_ trivial rfl
 simp only[fh,RR,ah,ai] at h
 exact h
def ki:=by
 have h:=fun l  n k_=>CE er 88 1 rfl (fun _=>rfl) (l,n) k_ trivial rfl
 simp only[er,RR,ah,ai] at h
 exact h
def qp:=by
 have h:=fun l  self k_=>CE dK 31 2 rfl (fun _=>rfl) (l,self) k_ trivial rfl
 simp only[dK,RR,ah,ai] at h
 exact h
def Ej:=by
 have h:=fun self=>lX fun n  t k_ h_=>CE fi 166 1 rfl (fun _=>rfl) (self,n,t) k_ h_ rfl
 simp only[fi,RR,ah,ai] at h
 exact h
def mQ:=by
 have h:=bI fun c  self=>lX fun n k_=>CE dt 15 1 rfl (fun _=>rfl) (c,self,n) k_ trivial rfl
 simp only[dt,RR,ah,ai] at h
 exact h
def G6:=by
 have h:=zY fun m k_=>CE iV 111 1 rfl (fun _=>rfl) m k_ trivial rfl
 simp only[iV,RR,ah,ai] at h
 exact h
def sQ:=by
 have h:=fun l k_=>CE et 170 1 rfl (fun _=>rfl) l k_ trivial rfl
 simp only[et,RR,ah,ai] at h
 exact h
def HS:=by
 have h:=fun l k_=>CE iW 167 1 rfl (fun _=>rfl) l k_ trivial rfl
 simp only[iW,RR,ah,ai] at h
 exact h
def Ek:=by
 have h:=zY fun m k_=>CE gB 168 1 rfl (fun _=>rfl) m k_ trivial rfl
 simp only[gB,RR,ah,ai] at h
 exact h
def El:=by
 have h:=zY fun m k_=>CE gC 169 1 rfl (fun _=>rfl) m k_ trivial rfl
 simp only[gC,RR,ah,ai] at h
 exact h
theorem ph{l:List Int}{n:Int}(h:l=[]∧0≤n∧n≤1000000):eS [L l,I n]=some [L l]:=nK (a:=(l,n)) (by rintro ⟨_,_⟩ ⟨_,_⟩ h;simpa[eU,wj] using h) h
theorem bk{l:List Int}{n:Int}{k_:PV→Prop}(h:l=[]∧0≤n∧n≤1000000):CALL ρ 114 [L l,I n] 1 k_=k_ (L l):=nL (ρ:=ρ) (K:=114) (m:=1) (k:=k_) (ph h) rfl
def nj:=by
 have h:=fun ls k_ h_=>CE aO 49 1 rfl (fun _=>rfl) ls k_ h_ rfl
 simp only[aO,RR,ah,ai] at h
 exact h
def G7:=by
 have h:=zY fun m k_=>CE gm 110 17 rfl (fun _=>rfl) m k_ trivial rfl
 simp only[gm,RR,ah,ai] at h
 exact h
def Em:=by
 have h:=zY fun m k_=>CE fj 47 1 rfl (fun _=>rfl) m k_ trivial rfl
 simp only[fj,RR,ah,ai] at h
 exact h
def C3:=by
 have h:=fun t  self  limit  l k_ h_=>CE cQ 138 2 rfl (fun _=>rfl) (t,self,limit,l) k_ h_ rfl
 simp only[cQ,RR,ah,ai] at h
 exact h
def C4:=by
 have h:=fun l k_ h_=>CE cS 74 2 rfl (fun _=>rfl) l k_ h_ rfl
 simp only[cS,RR,ah,ai] at h
 exact h
def C5:=by
 have h:=fun n  top k_ h_=>CE fE 191 2 rfl (fun _=>rfl) (n,top) k_ h_ rfl
 simp only[fE,RR,ah,ai] at h
 exact h
def C6:=by
 have h:=fun e  n k_=>CE fF 192 5 rfl (fun _=>rfl) (e,n) k_ trivial rfl
 simp only[fF,RR,ah,ai] at h
 exact h
def C7:=by
 have h:=ic fun s k_=>CE fG 193 1 rfl (fun _=>rfl) s k_ trivial rfl
 simp only[fG,RR,ah,ai] at h
 exact h
def uK:=by
 have h:=gc fun x k_ h_=>CE cM 238 16 rfl (fun _=>rfl) x k_ h_ rfl
 simp only[cM,RR,ah,ai] at h
 exact h
def C8:=by
 have h:=bI fun c  t  self=>gc fun x k_ h_=>CE eu 222 17 rfl (fun _=>rfl) (c,t,self,x) k_ h_ rfl
 simp only[eu,RR,ah,ai] at h
 exact h
def yA:=by
 have h:=bI fun c  t  self=>gc fun x k_ h_=>CE du 141 17 rfl (fun _=>rfl) (c,t,self,x) k_ h_ rfl
 simp only[du,RR,ah,ai] at h
 exact h
def En:=by
 have h:=bI fun c  t  self=>gc fun x k_ h_=>CE fk 142 17 rfl (fun _=>rfl) (c,t,self,x) k_ h_ rfl
 simp only[fk,RR,ah,ai] at h
 exact h
def uL:=by
 have h:=gc fun x k_=>CE cN 139 1 rfl (fun _=>rfl) x k_ trivial rfl
 simp only[cN,RR,ah,ai] at h
 exact h
def G8:=by
 have h:=zY fun m k_ h_=>CE iX 137 16 rfl (fun _=>rfl) m k_ h_ rfl
 simp only[iX,RR,ah,ai] at h
 exact h
def ur:=by
 have h:=fun self=>lX fun n  l k_ h_=>CE fm 73 2 rfl (fun _=>rfl) (self,n,l) k_ h_ rfl
 simp only[fm,RR,ah,ai] at h
 exact h
theorem sR{z0 z1 z2 z3 z4 z5 z6 z7:Int}{z8:Bool}{z9:Int}{y0:List Peer}{y1:List Topic}{y2:List Call}{y3 y4:Int}{y5:List Mark}{y6:List Mark2}{y7:List Msg}{k_:PV→PV→Prop}(h:bj (Node.mk z8 z9 y0 y1 y2 y3 y4 y5 y6)=false∧y7.length≤1000∧ ∀m∈y7,m.path.length≤30∧m.todo.length≤30):CALL ρ 26 [I z0,I z1,I z2,I z3,I z4,I z5,I z6,I z7,bb z8,I z9,L y0,L y1,L y2,I y3,I y4,L y5,L y6,L y7] 2 k_=(fun (c:Config) (n:Node)=>k_ (L (tM c z7 n y7).1) (I (tM c z7 n y7).2)) (Config.mk z0 z1 z2 z3 z4 z5 z6) (Node.mk z8 z9 y0 y1 y2 y3 y4 y5 y6):=rG (F:=fH) rfl (fun _=>rfl) ((Config.mk z0 z1 z2 z3 z4 z5 z6),z7,(Node.mk z8 z9 y0 y1 y2 y3 y4 y5 y6),y7) h rfl
theorem gE{z0 z1 z2 z3 z4 z5 z6 z7:Int}{z8:Bool}{z9:Int}{y0:List Peer}{y1:List Topic}{y2:List Call}{y3 y4:Int}{y5:List Mark}{y6:List Mark2}{k_:PV→PV→PV→PV→PV→PV→PV→PV→PV→PV→PV→Prop}(h:bj (Node.mk z8 z9 y0 y1 y2 y3 y4 y5 y6)=false):CALL ρ 27 [I z0,I z1,I z2,I z3,I z4,I z5,I z6,I z7,bb z8,I z9,L y0,L y1,L y2,I y3,I y4,L y5,L y6] 11 k_=(fun (c:Config) (n:Node)=>k_ (bb ((eV c z7 n).1).up) (I ((eV c z7 n).1).inc) (L ((eV c z7 n).1).peers) (L ((eV c z7 n).1).topics) (L ((eV c z7 n).1).calls) (I ((eV c z7 n).1).pubs) (I ((eV c z7 n).1).asks) (L ((eV c z7 n).1).marks) (L ((eV c z7 n).1).taken) (L (eV c z7 n).2.1) (I (eV c z7 n).2.2)) (Config.mk z0 z1 z2 z3 z4 z5 z6) (Node.mk z8 z9 y0 y1 y2 y3 y4 y5 y6):=rG (F:=gD) rfl (fun _=>rfl) ((Config.mk z0 z1 z2 z3 z4 z5 z6),z7,(Node.mk z8 z9 y0 y1 y2 y3 y4 y5 y6)) h rfl
theorem jl  {k_:PV→Prop}:CALL ρ 28 [] 1 k_=k_ (bb true):=FQ (F:=fT) rfl (fun _ _ _=>rfl) () trivial rfl
theorem sS{z0 z1 z2 z3 z4 z5 z6 z7:Int}{z8:Bool}{z9:Int}{y0:List Peer}{y1:List Topic}{y2:List Call}{y3 y4:Int}{y5:List Mark}{y6:List Mark2}:io [I z0,I z1,I z2,I z3,I z4,I z5,I z6,I z7,bb z8,I z9,L y0,L y1,L y2,I y3,I y4,L y5,L y6]=some [bb true]:=AV (F:=ci) (a:=((Config.mk z0 z1 z2 z3 z4 z5 z6),z7,(Node.mk z8 z9 y0 y1 y2 y3 y4 y5 y6))) (fun _=>rfl) trivial
theorem rU{z0 z1 z2 z3 z4 z5 z6 z7:Int}{z8:Bool}{z9:Int}{y0:List Peer}{y1:List Topic}{y2:List Call}{y3 y4:Int}{y5:List Mark}{y6:List Mark2}:gn [I z0,I z1,I z2,I z3,I z4,I z5,I z6,I z7,bb z8,I z9,L y0,L y1,L y2,I y3,I y4,L y5,L y6]=some [bb true]:=AV (F:=bZ) (a:=((Config.mk z0 z1 z2 z3 z4 z5 z6),z7,(Node.mk z8 z9 y0 y1 y2 y3 y4 y5 y6))) (fun _=>rfl) trivial
theorem sT{z0 z1 z2 z3 z4 z5 z6 z7:Int}{z8:Bool}{z9:Int}{y0:List Peer}{y1:List Topic}{y2:List Call}{y3 y4:Int}{y5:List Mark}{y6:List Mark2}:iq [I z0,I z1,I z2,I z3,I z4,I z5,I z6,I z7,bb z8,I z9,L y0,L y1,L y2,I y3,I y4,L y5,L y6]=some [bb true]:=AV (F:=ck) (a:=((Config.mk z0 z1 z2 z3 z4 z5 z6),z7,(Node.mk z8 z9 y0 y1 y2 y3 y4 y5 y6))) (fun _=>rfl) trivial
theorem tR{z0 z1:Int}:iY [I z0,I z1]=some [bb true]:=AV (F:=dI) (a:=(z0,z1)) (fun _=>rfl) trivial
def Eo:=by
 have h:=fun l  o  inc k_ h_=>CE dL 38 2 rfl (fun _=>rfl) (l,o,inc) k_ h_ rfl
 simp only[dL,RR,ah,ai] at h
 exact h
def Ep:=by
 have h:=lX fun n k_ h_=>CE fo 44 9 rfl (fun _=>rfl) n k_ h_ rfl
 simp only[fo,RR,ah,ai] at h
 exact h
end Go.Xt
