/- Steps towards the statements of this seat; the conditions stand in each theorem. -/
import Derived.Test.YtahdphncepnbeaaGreatDoorSpecs
set_option maxRecDepth 100000
set_option linter.unusedVariables false
set_option linter.unusedSimpArgs false
namespace Go.Xt
set_option linter.defProp false
def iB:Int→Prop×List PV×List PV:=mkF fun n=>(True,[bb (isN n)])
def fc:Int→Prop×List PV×List PV:=mkF fun n=>(True,[I (if isN n=true then nn n else 0),I (if isN n=true then 0 else 1)])
def dY:Int→Prop×List PV×List PV:=mkF fun t=>(True,[I (if isT t=true then tt t else 0),I (if isT t=true then 0 else 1)])
def iC:Int×Int→Prop×List PV×List PV:=mkF fun (k,n)=>(0≤k∧k<4611686018427387904∧0≤n∧n<4611686018427387904,[I (far k n)])
def gn:Int×Int→Prop×List PV×List PV:=mkF fun (t,n)=>(True,[I (if (isT t&&isN n)=true then gap t n else 0),I (if (isT t&&isN n)=true then 0 else 1)])
def dw:Int×Int×Int→Prop×List PV×List PV:=mkF fun (t,a,b)=>(True,[bb (eD t a b)])
def eU:(List Int)→Prop×List PV×List PV:=mkF fun l=>(True,[bb (l.all isN)])
def cX:Int×Int×(List Int)→Prop×List PV×List PV:=mkF fun (t,self,l)=>(True,[bb (pJ t self l)])
def cY:Int×Int×(List Int)×Int→Prop×List PV×List PV:=mkF fun (t,self,l,depth)=>(True,[I (chk t self l depth)])
def aH:(List Int)×Int→Prop×List PV×List PV:=mkF fun (l,n)=>(True,[bb (l.contains n)])
noncomputable def dE:List PV→Option (List PV):=nT (fun (l:(List Int))=>l.length<4611686018427387904) (fun (l:(List Int))=>[L l]) (fun (l:(List Int))=>[L (gR l)])
noncomputable def cu:List PV→Option (List PV):=nT (fun (l:(List Int))=>l.length<4611686018427387904) (fun (l:(List Int))=>[L l]) (fun (l:(List Int))=>[L (aP l)])
def kp:Int→Prop×List PV×List PV:=mkF fun k=>(True,[bb (isK k)])
def go:Int×Int→Prop×List PV×List PV:=mkF fun (k,bits)=>(True,[I (if (isK k&&decide (0≤bits)&&decide (bits≤61))=true then far (2 ^ bits.toNat) k else 0),I (if (isK k&&decide (0≤bits)&&decide (bits≤61))=true then 0 else 1)])
def cZ:Int×(List Int)→Prop×List PV×List PV:=mkF fun (t,l)=>(True,[I (lR t l).1,I (lR t l).2])
def cv:(List Int)×Int→Prop×List PV×List PV:=mkF fun (live,self)=>(True,[I (x4 live self)])
def cw:(List Int)×Int→Prop×List PV×List PV:=mkF fun (live,k)=>(live.all isN=true∧0≤k∧k<4611686018427387904,[I (mP live k)])
def cx:(List Int)×Int→Prop×List PV×List PV:=mkF fun (live,self)=>(live.all isN=true∧isN self=true,[I (iP live self)])
def bB:(List Int)×Int→Prop×List PV×List PV:=mkF fun (live,self)=>(live.all isN=true∧isN self=true∧live≠[],[L (gB live self)])
def da:Int×(List Int)×Int→Prop×List PV×List PV:=mkF fun (t,live,self)=>(live.all isN=true∧isN self=true∧live≠[],[I (cK t live self)])
def cy:Int×(List Int)×Int→Prop×List PV×List PV:=mkF fun (t,live,self)=>(True,[I (mQ t live self)])
def db:Int×(List Int)×Int→Prop×List PV×List PV:=mkF fun (t,live,self)=>(True,[I (if mQ t live self=0 then max (cK t live self) 0 else 0),bb (decide (mQ t live self=0)&&decide (0≤cK t live self)),I (mQ t live self)])
noncomputable def iV:List PV→Option (List PV):=nT (fun (_:ByteArray×Int×Int×Int×Int)=>True) (fun (((s,n,lo,hi,why)):ByteArray×Int×Int×Int×Int)=>[.str s,I n,I lo,I hi,I why]) (fun (((s,n,lo,hi,why)):ByteArray×Int×Int×Int×Int)=>[E ⟨false,if n<lo∨hi<n then [why] else []⟩])
noncomputable def jS:List PV→Option (List PV):=nT (fun (xs:(List Er))=>xs≠[]∧xs.length≤1000∧ ∀x∈xs,x.j=false) (fun (xs:(List Er))=>[L xs]) (fun (xs:(List Er))=>[E ⟨true,xs.flatMap (·.l)⟩])
noncomputable def iW:List PV→Option (List PV):=nT (fun (x:Er)=>x.l.length≤1000) (fun (x:Er)=>[E x]) (fun (x:Er)=>[I (dW x.l)])
def cb:Config→Prop×List PV×List PV:=mkF fun c=>(True,[E ⟨true,jp c⟩])
def cd:Config→Prop×List PV×List PV:=mkF fun c=>(True,[I (if bM c=true then 0 else 13)])
def dx:Int→Prop×List PV×List PV:=mkF fun e=>(True,[I (if ep e=true then 0 else 1)])
def fe:Int→Prop×List PV×List PV:=mkF fun e=>(True,[I (if ep e=true then e % 16 else 0),I (if ep e=true then 0 else 1)])
def kq:Int×Int×Int→Prop×List PV×List PV:=mkF fun (n,lo,hi)=>(True,[bb (rng n lo hi)])
def dy:Int→Prop×List PV×List PV:=mkF fun n=>(True,[bb (cnt n)])
def fg:Int→Prop×List PV×List PV:=mkF fun n=>(True,[bb (val n)])
def iD:Int×Int×Int→Prop×List PV×List PV:=mkF fun (n,lo,hi)=>(True,[bb (rng n lo hi)])
def dZ:Peer→Prop×List PV×List PV:=mkF fun p=>(True,[bb (oD p)])
def dc:(List Peer)→Prop×List PV×List PV:=mkF fun l=>(True,[I (if bf l=true then 0 else 1)])
def ec:Int×Int×Kid→Prop×List PV×List PV:=mkF fun (t,self,k)=>(True,[bb (eD t self k.node&&cnt k.inc&&rng k.age 0 6)])
def de:Int×Int×Int×(List Kid)→Prop×List PV×List PV:=mkF fun (t,self,limit,l)=>(True,[I (if jB t self limit l=true then 0 else 1)])
def df:(List Item)×Int→Prop×List PV×List PV:=mkF fun (l,want)=>(cnt want=true∧l.length≤16,[bb (decide (l.length<want)&&kR (want-l.length) l)])
def dg:(List Item)×Int×Int→Prop×List PV×List PV:=mkF fun (l,want,limit)=>(True,[I (if sH l want limit=true then 0 else 1)])
def ed:Int×Int×Int→Prop×List PV×List PV:=mkF fun (seq,want,window)=>(cnt want=true∧rng window 1 16=true,[bb (decide (want<seq)&&decide (seq<want+window)&&decide (seq<1073741824))])
def cz:(List Item)×Int×Int→Prop×List PV×List PV:=mkF fun (l,want,window)=>(True,[I (if pL l want window=true then 0 else 1)])
def dz:Event→Prop×List PV×List PV:=mkF fun x=>(True,[I (if iQ x=true then 0 else 1)])
def cA:(List Event)×Int→Prop×List PV×List PV:=mkF fun (l,limit)=>(True,[I (if bW l limit=true then 0 else 1)])
def fh:Stream→Prop×List PV×List PV:=mkF fun s=>(True,[bb (pM s)])
def dh:Config×Stream→Prop×List PV×List PV:=mkF fun (c,s)=>(True,[bb (mR c s)])
def dj:Config×Stream×(List Event)→Prop×List PV×List PV:=mkF fun (c,s,q)=>(True,[I (if bM c=true then (if mS c s q=true then 0 else 1) else 13)])
def dk:Int×Int×Int→Prop×List PV×List PV:=mkF fun (t,self,n)=>(True,[bb (ij t self n)])
def cN:Int×Topic→Prop×List PV×List PV:=mkF fun (self,x)=>(True,[bb (oE self x)])
def bP:Topic→Prop×List PV×List PV:=mkF fun x=>(0≤x.parent∧x.parent≤8,[bb (kn x)])
def cB:Config×Int×Int×Topic→Prop×List PV×List PV:=mkF fun (c,t,self,x)=>(bM c=true,[bb (aC c t self x)])
def cC:Config×Int×Int×Topic→Prop×List PV×List PV:=mkF fun (c,t,self,x)=>(True,[I (if bM c=true then (if (eE c t self&&aC c t self x)=true then 0 else 1) else 13)])
def dl:Config×Node→Prop×List PV×List PV:=mkF fun (c,n)=>(bM c=true,[bb (dX c n.asks 0 n.calls&&decide (n.calls.length≤40))])
def fi:Mark→Prop×List PV×List PV:=mkF fun m=>(True,[bb (oF m)])
def ee:Config×Mark2→Prop×List PV×List PV:=mkF fun (c,x)=>(bM c=true,[bb (nO c x)])
def dm:Config×Int×Node→Prop×List PV×List PV:=mkF fun (c,self,n)=>(bM c=true∧rng self 0 (c.nodes-1)=true,[bb (mT c self n)])
def dp:Config×Int×Node→Prop×List PV×List PV:=mkF fun (c,self,n)=>(True,[I (il c self n)])
def fS:Unit→Prop×List PV×List PV:=fun _=>(True,[],[I 8,I 4,I 2,I 8,I 8,I 8,I 16])
noncomputable def xc:=fnT fS
def ar:(List Peer)→Prop×List PV×List PV:=mkF fun l=>(l.length≤1000000,[L l])
def au:(List Call)→Prop×List PV×List PV:=mkF fun l=>(l.length≤1000000,[L l])
def av:(List Mark)→Prop×List PV×List PV:=mkF fun l=>(l.length≤1000000,[L l])
def ao:(List Mark2)→Prop×List PV×List PV:=mkF fun l=>(l.length≤1000000,[L l])
def aA:(List Kid)→Prop×List PV×List PV:=mkF fun l=>(l.length≤1000000,[L l])
def ap:(List Event)→Prop×List PV×List PV:=mkF fun l=>(l.length≤1000000,[L l])
def aw:(List Item)→Prop×List PV×List PV:=mkF fun l=>(l.length≤1000000,[L l])
def aM:(List Int)→Prop×List PV×List PV:=mkF fun l=>(l.length≤1000000,[L l])
def ef:Topic→Prop×List PV×List PV:=mkF fun x=>(fP x=false,Row.row x)
def fj:Event→Prop×List PV×List PV:=mkF fun x=>(True,Row.row (lY x)++[bb (ko x)])
def dK:(List Event)×Int×Event→Prop×List PV×List PV:=mkF fun (l,limit,x)=>(True,[L (u4 l limit x).1,I (u4 l limit x).2])
def dL:(List Event)×Int×Event→Prop×List PV×List PV:=mkF fun (l,limit,x)=>(l.length≤1000000,[L (x8 l limit x)])
def dM:Node×Int→Prop×List PV×List PV:=mkF fun (n,o)=>(True,[bb (zM n o)])
def dq:(List Peer)×Int→Prop×List PV×List PV:=mkF fun (l,n)=>(True,[I (jC l n)])
def cQ:(List Peer)×Int→Prop×List PV×List PV:=mkF fun (l,self)=>(True,[L (if jC l self=0 then gM l self else []),I (jC l self)])
def dN:Int×Node×Int→Prop×List PV×List PV:=mkF fun (self,n,t)=>(bf n.peers=true∧rng self 0 (n.peers.length-1)=true∧isT t=true,[I (cK t (gM n.peers self) self)])
def gp:Msg→Prop×List PV×List PV:=mkF fun m=>(True,[bb (BU m)])
def dr:(List Int)→Prop×List PV×List PV:=mkF fun l=>(True,[bb (decide l.Nodup)])
def gr:(List Int)→Prop×List PV×List PV:=mkF fun l=>(True,[bb (oa l)])
def fk:Msg→Prop×List PV×List PV:=mkF fun m=>(True,[bb (sJ m)])
def fm:Msg→Prop×List PV×List PV:=mkF fun m=>(True,[bb (qw m)])
noncomputable def dF:List PV→Option (List PV):=nT (fun (((l,n)):(List Int)×Int)=>l=[]∧0≤n∧n≤1000000) (fun (((l,n)):(List Int)×Int)=>[L l,I n]) (fun (((l,n)):(List Int)×Int)=>[L l])
def aG:(List (List Int))→Prop×List PV×List PV:=mkF fun ls=>(ls.flatten.length≤1000000,[L ls.flatten])
def eV:Msg→Prop×List PV×List PV:=mkF fun m=>(True,Row.row (lU m).1++[bb (lU m).2])
def dO:Msg→Prop×List PV×List PV:=mkF fun m=>(True,[I (if rb m=true then 0 else 5)])
def cj:Int×Int×Int×(List Kid)→Prop×List PV×List PV:=mkF fun (t,self,limit,l)=>(jB t self limit l=true,[L (fQ l),I 0])
def ck:(List Peer)→Prop×List PV×List PV:=mkF fun l=>(bf l=true,[L (ba l),I 0])
def eg:Int×Int→Prop×List PV×List PV:=mkF fun (n,top)=>(isN n=true∧0≤top∧top≤1073741824,[I (pN n top),I (if pN n top=0 then 11 else 0)])
def eh:Int×Int→Prop×List PV×List PV:=mkF fun (e,n)=>(True,Row.row (G4 e n))
def ei:Stream→Prop×List PV×List PV:=mkF fun s=>(True,[bb (decide (s.want<s.known))])
def ce:Topic→Prop×List PV×List PV:=mkF fun x=>(fP x=false,Row.row (gN x))
def dt:Config×Int×Int×Topic→Prop×List PV×List PV:=mkF fun (c,t,self,x)=>(sL c t self x=0,Row.row (gN x)++[I 0])
def cD:Config×Int×Int×Topic→Prop×List PV×List PV:=mkF fun (c,t,self,x)=>(sL c t self x=0,Row.row ((im self x).1)++[I (im self x).2])
def dP:Config×Int×Int×Topic→Prop×List PV×List PV:=mkF fun (c,t,self,x)=>(sL c t self x=0,Row.row ({ x with root:=0 })++[I 0])
def cf:Topic→Prop×List PV×List PV:=mkF fun x=>(True,[bb (dJ x)])
def gt:Msg→Prop×List PV×List PV:=mkF fun m=>(m.path.length≤30∧m.todo.length≤30,Row.row (m))
def dQ:Int×Node×(List Msg)→Prop×List PV×List PV:=mkF fun (self,n,l)=>(l.length≤1000∧n.peers.length≤12∧ ∀m∈l,m.path.length≤30∧m.todo.length≤30,[L (sM self n l),bb (iR self n l).isSome])
def ej:Config×Int×Node×(List Msg)→Prop×List PV×List PV:=mkF fun (c,self,n,l)=>(cV n=false∧l.length≤1000∧ ∀m∈l,m.path.length≤30∧m.todo.length≤30,[L (qx c self n l).1,I (qx c self n l).2])
def fo:Config×Int×Node→Prop×List PV×List PV:=mkF fun (c,self,n)=>(cV n=false,Row.row ((ew c self n).1)++[L (ew c self n).2.1,I (ew c self n).2.2])
def eF:Unit→Prop×List PV×List PV:=fun _=>(True,[],[bb true])
noncomputable def u6:=fnT eF
def dR:Int×Int→Prop×List PV×List PV:=mkF fun (t,self)=>(True,[L (GN t self)])
noncomputable def zO:=fnT dR
def cE:Int→Prop×List PV×List PV:=mkF fun t=>(True,[L (dD t)])
noncomputable def u7:=fnT cE
def bR:Int×Int→Prop×List PV×List PV:=mkF fun (t,ticks)=>(True,[bb true])
noncomputable def iX:=fnT bR
def bT:Int×Int→Prop×List PV×List PV:=mkF fun (t,age)=>(True,[bb true])
noncomputable def iY:=fnT bT
def dS:Node→Prop×List PV×List PV:=mkF fun n=>(cV n=false,Row.row (n))
noncomputable def ρ:Fns:=fun K=>match K with
 | 130=>fnT iB
 | 89=>fnT fc
 | 67=>fnT dY
 | 90=>fnT iC
 | 39=>fnT gn
 | 12=>fnT dw
 | 68=>fnT eU
 | 239=>fnT cX
 | 203=>fnT cY
 | 152=>fnT aH
 | 248=>dE
 | 249=>cu
 | 263=>fnT kp
 | 246=>fnT go
 | 29=>fnT cZ
 | 213=>fnT cv
 | 247=>fnT cw
 | 215=>fnT cx
 | 214=>fnT bB
 | 165=>fnT da
 | 164=>fnT cy
 | 95=>fnT db
 | 186=>iV
 | 185=>jS
 | 131=>iW
 | 132=>fnT cb
 | 69=>fnT cd
 | 159=>fnT dx
 | 238=>fnT fe
 | 91=>fnT kq
 | 133=>fnT dy
 | 43=>fnT fg
 | 70=>fnT iD
 | 146=>fnT dZ
 | 77=>fnT dc
 | 192=>fnT ec
 | 148=>fnT de
 | 261=>fnT df
 | 241=>fnT dg
 | 211=>fnT ed
 | 208=>fnT cz
 | 234=>fnT dz
 | 233=>fnT cA
 | 260=>fnT fh
 | 240=>fnT dh
 | 204=>fnT dj
 | 200=>fnT dk
 | 201=>fnT cN
 | 202=>fnT bP
 | 157=>fnT cB
 | 92=>fnT cC
 | 134=>fnT dl
 | 137=>fnT fi
 | 140=>fnT ee
 | 71=>fnT dm
 | 31=>fnT dp
 | 7=>xc
 | 73=>fnT ar
 | 74=>fnT au
 | 75=>fnT av
 | 76=>fnT ao
 | 142=>fnT aA
 | 96=>fnT ap
 | 189=>fnT aw
 | 141=>fnT aM
 | 72=>fnT ef
 | 235=>fnT fj
 | 191=>fnT dK
 | 147=>fnT dL
 | 86=>fnT dM
 | 78=>fnT dq
 | 34=>fnT cQ
 | 46=>fnT dN
 | 155=>fnT gp
 | 198=>fnT dr
 | 195=>fnT gr
 | 196=>fnT fk
 | 197=>fnT fm
 | 237=>dF
 | 199=>fnT aG
 | 154=>fnT eV
 | 88=>fnT dO
 | 80=>fnT cj
 | 33=>fnT ck
 | 150=>fnT eg
 | 151=>fnT eh
 | 153=>fnT ei
 | 236=>fnT ce
 | 193=>fnT dt
 | 83=>fnT cD
 | 84=>fnT dP
 | 81=>fnT cf
 | 87=>fnT gt
 | 37=>fnT dQ
 | 38=>fnT ej
 | 10=>fnT fo
 | 11=>u6
 | 30=>zO
 | 8=>u7
 | 3=>iX
 | 4=>iY
 | 32=>fnT dS
 | _=>fun _=>none
theorem CE{α:Type}[Enc α](F:α→Prop×List PV×List PV)(K m:Nat)(e:ρ K=fnT F)(hg: ∀a,(F a).2.1=Enc.enc a)(a:α)(k:pH m)(hp:(F a).1)(hm:(F a).2.2.length=m):CALL ρ K (F a).2.1 m k=app m k (F a).2.2:=BH e hg a hp hm
def cg:=by
 have h:=fun n k_=>CE iB 130 1 rfl (fun _=>rfl) n k_ trivial rfl
 simp only[iB,RR,ak,al] at h
 exact h
def jt:=by
 have h:=fun n k_=>CE fc 89 2 rfl (fun _=>rfl) n k_ trivial rfl
 simp only[fc,RR,ak,al] at h
 exact h
def lD:=by
 have h:=fun t k_=>CE dY 67 2 rfl (fun _=>rfl) t k_ trivial rfl
 simp only[dY,RR,ak,al] at h
 exact h
def nP:=by
 have h:=fun k  n k_ h_=>CE iC 90 1 rfl (fun _=>rfl) (k,n) k_ h_ rfl
 simp only[iC,RR,ak,al] at h
 exact h
def iZ:=by
 have h:=fun t  n k_=>CE gn 39 2 rfl (fun _=>rfl) (t,n) k_ trivial rfl
 simp only[gn,RR,ak,al] at h
 exact h
def aJ:=by
 have h:=fun t  a  b k_=>CE dw 12 1 rfl (fun _=>rfl) (t,a,b) k_ trivial rfl
 simp only[dw,RR,ak,al] at h
 exact h
def oN:=by
 have h:=fun l k_=>CE eU 68 1 rfl (fun _=>rfl) l k_ trivial rfl
 simp only[eU,RR,ak,al] at h
 exact h
def xd:=by
 have h:=fun t  self  l k_=>CE cX 239 1 rfl (fun _=>rfl) (t,self,l) k_ trivial rfl
 simp only[cX,RR,ak,al] at h
 exact h
def xe:=by
 have h:=fun t  self  l  depth k_=>CE cY 203 1 rfl (fun _=>rfl) (t,self,l,depth) k_ trivial rfl
 simp only[cY,RR,ak,al] at h
 exact h
def aV:=by
 have h:=fun l  n k_=>CE aH 152 1 rfl (fun _=>rfl) (l,n) k_ trivial rfl
 simp only[aH,RR,ak,al] at h
 exact h
theorem lZ{l:List Int}(h:l.length<4611686018427387904):dE [L l]=some [L (gR l)]:=kO (a:=l) (by intro a b h;simpa[dH,sF] using h) h
theorem m0{l:List Int}{k_:PV→Prop}(h:l.length<4611686018427387904):CALL ρ 248 [L l] 1 k_=k_ (L (gR l)):=kP (ρ:=ρ) (K:=248) (m:=1) (k:=k_) (lZ h) rfl
theorem jT{l:List Int}(h:l.length<4611686018427387904):cu [L l]=some [L (aP l)]:=kO (a:=l) (by intro a b h;simpa[dH,sF] using h) h
theorem jU{l:List Int}{k_:PV→Prop}(h:l.length<4611686018427387904):CALL ρ 249 [L l] 1 k_=k_ (L (aP l)):=kP (ρ:=ρ) (K:=249) (m:=1) (k:=k_) (jT h) rfl
def Ez:=by
 have h:=fun k k_=>CE kp 263 1 rfl (fun _=>rfl) k k_ trivial rfl
 simp only[kp,RR,ak,al] at h
 exact h
def BV:=by
 have h:=fun k  bits k_=>CE go 246 2 rfl (fun _=>rfl) (k,bits) k_ trivial rfl
 simp only[go,RR,ak,al] at h
 exact h
def pQ:=by
 have h:=fun t  l k_=>CE cZ 29 2 rfl (fun _=>rfl) (t,l) k_ trivial rfl
 simp only[cZ,RR,ak,al] at h
 exact h
def u9:=by
 have h:=fun live  self k_=>CE cv 213 1 rfl (fun _=>rfl) (live,self) k_ trivial rfl
 simp only[cv,RR,ak,al] at h
 exact h
def ua:=by
 have h:=fun live  k k_ h_=>CE cw 247 1 rfl (fun _=>rfl) (live,k) k_ h_ rfl
 simp only[cw,RR,ak,al] at h
 exact h
def ub:=by
 have h:=fun live  self k_ h_=>CE cx 215 1 rfl (fun _=>rfl) (live,self) k_ h_ rfl
 simp only[cx,RR,ak,al] at h
 exact h
def ro:=by
 have h:=fun live  self k_ h_=>CE bB 214 1 rfl (fun _=>rfl) (live,self) k_ h_ rfl
 simp only[bB,RR,ak,al] at h
 exact h
def xf:=by
 have h:=fun t  live  self k_ h_=>CE da 165 1 rfl (fun _=>rfl) (t,live,self) k_ h_ rfl
 simp only[da,RR,ak,al] at h
 exact h
def uc:=by
 have h:=fun t  live  self k_=>CE cy 164 1 rfl (fun _=>rfl) (t,live,self) k_ trivial rfl
 simp only[cy,RR,ak,al] at h
 exact h
def xg:=by
 have h:=fun t  live  self k_=>CE db 95 3 rfl (fun _=>rfl) (t,live,self) k_ trivial rfl
 simp only[db,RR,ak,al] at h
 exact h
theorem sR{s:ByteArray}{n lo hi why:Int}:iV [.str s,I n,I lo,I hi,I why]=some [E ⟨false,if n<lo∨hi<n then [why] else []⟩]:=kO (a:=(s,n,lo,hi,why)) (by rintro ⟨_,_,_,_,_⟩ ⟨_,_,_,_,_⟩ h;simpa[dH,sF] using h) trivial
theorem sS{s:ByteArray}{n lo hi why:Int}{k_:PV→Prop}:CALL ρ 186 [.str s,I n,I lo,I hi,I why] 1 k_=k_ (E ⟨false,if n<lo∨hi<n then [why] else []⟩):=kP (ρ:=ρ) (K:=186) (m:=1) (k:=k_) (sR) rfl
theorem ud{xs:List Er}(h:xs≠[]∧xs.length≤1000∧ ∀x∈xs,x.j=false):jS [L xs]=some [E ⟨true,xs.flatMap (·.l)⟩]:=kO (a:=xs) (by intro a b h;simpa[dH,sF] using h) h
theorem oc{xs:List Er}{k_:PV→Prop}(h:xs≠[]∧xs.length≤1000∧ ∀x∈xs,x.j=false):CALL ρ 185 [L xs] 1 k_=k_ (E ⟨true,xs.flatMap (·.l)⟩):=kP (ρ:=ρ) (K:=185) (m:=1) (k:=k_) (ud h) rfl
theorem sU{x:Er}(h:x.l.length≤1000):iW [E x]=some [I (dW x.l)]:=kO (a:=x) (by intro a b h;simpa[dH,sF] using h) h
theorem sV{x:Er}{k_:PV→Prop}(h:x.l.length≤1000):CALL ρ 131 [E x] 1 k_=k_ (I (dW x.l)):=kP (ρ:=ρ) (K:=131) (m:=1) (k:=k_) (sU h) rfl
def rp:=by
 have h:=cL fun c k_=>CE cb 132 1 rfl (fun _=>rfl) c k_ trivial rfl
 simp only[cb,RR,ak,al] at h
 exact h
def gY:=by
 have h:=cL fun c k_=>CE cd 69 1 rfl (fun _=>rfl) c k_ trivial rfl
 simp only[cd,RR,ak,al] at h
 exact h
def gD:=by
 have h:=fun e k_=>CE dx 159 1 rfl (fun _=>rfl) e k_ trivial rfl
 simp only[dx,RR,ak,al] at h
 exact h
def zP:=by
 have h:=fun e k_=>CE fe 238 2 rfl (fun _=>rfl) e k_ trivial rfl
 simp only[fe,RR,ak,al] at h
 exact h
def kr:=by
 have h:=fun n  lo  hi k_=>CE kq 91 1 rfl (fun _=>rfl) (n,lo,hi) k_ trivial rfl
 simp only[kq,RR,ak,al] at h
 exact h
def aS:=by
 have h:=fun n k_=>CE dy 133 1 rfl (fun _=>rfl) n k_ trivial rfl
 simp only[dy,RR,ak,al] at h
 exact h
def cS:=by
 have h:=fun n k_=>CE fg 43 1 rfl (fun _=>rfl) n k_ trivial rfl
 simp only[fg,RR,ak,al] at h
 exact h
def dA:=by
 have h:=fun n  lo  hi k_=>CE iD 70 1 rfl (fun _=>rfl) (n,lo,hi) k_ trivial rfl
 simp only[iD,RR,ak,al] at h
 exact h
def lE:=by
 have h:=GO fun p k_=>CE dZ 146 1 rfl (fun _=>rfl) p k_ trivial rfl
 simp only[dZ,RR,ak,al] at h
 exact h
def io:=by
 have h:=fun l k_=>CE dc 77 1 rfl (fun _=>rfl) l k_ trivial rfl
 simp only[dc,RR,ak,al] at h
 exact h
def xh:=by
 have h:=fun t  self=>Hp fun k k_=>CE ec 192 1 rfl (fun _=>rfl) (t,self,k) k_ trivial rfl
 simp only[ec,RR,ak,al] at h
 exact h
def iq:=by
 have h:=fun t  self  limit  l k_=>CE de 148 1 rfl (fun _=>rfl) (t,self,limit,l) k_ trivial rfl
 simp only[de,RR,ak,al] at h
 exact h
def xi:=by
 have h:=fun l  want k_ h_=>CE df 261 1 rfl (fun _=>rfl) (l,want) k_ h_ rfl
 simp only[df,RR,ak,al] at h
 exact h
def xj:=by
 have h:=fun l  want  limit k_=>CE dg 241 1 rfl (fun _=>rfl) (l,want,limit) k_ trivial rfl
 simp only[dg,RR,ak,al] at h
 exact h
def xk:=by
 have h:=fun seq  want  window k_ h_=>CE ed 211 1 rfl (fun _=>rfl) (seq,want,window) k_ h_ rfl
 simp only[ed,RR,ak,al] at h
 exact h
def ue:=by
 have h:=fun l  want  window k_=>CE cz 208 1 rfl (fun _=>rfl) (l,want,window) k_ trivial rfl
 simp only[cz,RR,ak,al] at h
 exact h
def bw:=by
 have h:=rO fun x k_=>CE dz 234 1 rfl (fun _=>rfl) x k_ trivial rfl
 simp only[dz,RR,ak,al] at h
 exact h
def od:=by
 have h:=fun l  limit k_=>CE cA 233 1 rfl (fun _=>rfl) (l,limit) k_ trivial rfl
 simp only[cA,RR,ak,al] at h
 exact h
def zQ:=by
 have h:=pP fun s k_=>CE fh 260 1 rfl (fun _=>rfl) s k_ trivial rfl
 simp only[fh,RR,ak,al] at h
 exact h
def xl:=by
 have h:=cL fun c=>pP fun s k_=>CE dh 240 1 rfl (fun _=>rfl) (c,s) k_ trivial rfl
 simp only[dh,RR,ak,al] at h
 exact h
def xm:=by
 have h:=cL fun c=>pP fun s  q k_=>CE dj 204 1 rfl (fun _=>rfl) (c,s,q) k_ trivial rfl
 simp only[dj,RR,ak,al] at h
 exact h
def xn:=by
 have h:=fun t  self  n k_=>CE dk 200 1 rfl (fun _=>rfl) (t,self,n) k_ trivial rfl
 simp only[dk,RR,ak,al] at h
 exact h
def sX:=by
 have h:=fun self=>gC fun x k_=>CE cN 201 1 rfl (fun _=>rfl) (self,x) k_ trivial rfl
 simp only[cN,RR,ak,al] at h
 exact h
def sY:=by
 have h:=gC fun x k_ h_=>CE bP 202 1 rfl (fun _=>rfl) x k_ h_ rfl
 simp only[bP,RR,ak,al] at h
 exact h
def uf:=by
 have h:=cL fun c  t  self=>gC fun x k_ h_=>CE cB 157 1 rfl (fun _=>rfl) (c,t,self,x) k_ h_ rfl
 simp only[cB,RR,ak,al] at h
 exact h
def gE:=by
 have h:=cL fun c  t  self=>gC fun x k_=>CE cC 92 1 rfl (fun _=>rfl) (c,t,self,x) k_ trivial rfl
 simp only[cC,RR,ak,al] at h
 exact h
def xo:=by
 have h:=cL fun c=>oG fun n k_ h_=>CE dl 134 1 rfl (fun _=>rfl) (c,n) k_ h_ rfl
 simp only[dl,RR,ak,al] at h
 exact h
def zR:=by
 have h:=GP fun m k_=>CE fi 137 1 rfl (fun _=>rfl) m k_ trivial rfl
 simp only[fi,RR,ak,al] at h
 exact h
def xp:=by
 have h:=cL fun c=>FB fun x k_ h_=>CE ee 140 1 rfl (fun _=>rfl) (c,x) k_ h_ rfl
 simp only[ee,RR,ak,al] at h
 exact h
def xq:=by
 have h:=cL fun c  self=>oG fun n k_ h_=>CE dm 71 1 rfl (fun _=>rfl) (c,self,n) k_ h_ rfl
 simp only[dm,RR,ak,al] at h
 exact h
def pR:=by
 have h:=cL fun c  self=>oG fun n k_=>CE dp 31 1 rfl (fun _=>rfl) (c,self,n) k_ trivial rfl
 simp only[dp,RR,ak,al] at h
 exact h
theorem ir  {k_:PV→PV→PV→PV→PV→PV→PV→Prop}:CALL ρ 7 [] 7 k_=k_ (I 8) (I 4) (I 2) (I 8) (I 8) (I 8) (I 16):=BG (F:=fS) rfl (fun _ _ _=>rfl) () trivial rfl
def cm:=by
 have h:=fun l k_ h_=>CE ar 73 1 rfl (fun _=>rfl) l k_ h_ rfl
 simp only[ar,RR,ak,al] at h
 exact h
def fT:=by
 have h:=fun l k_ h_=>CE au 74 1 rfl (fun _=>rfl) l k_ h_ rfl
 simp only[au,RR,ak,al] at h
 exact h
def fU:=by
 have h:=fun l k_ h_=>CE av 75 1 rfl (fun _=>rfl) l k_ h_ rfl
 simp only[av,RR,ak,al] at h
 exact h
def eW:=by
 have h:=fun l k_ h_=>CE ao 76 1 rfl (fun _=>rfl) l k_ h_ rfl
 simp only[ao,RR,ak,al] at h
 exact h
def gu:=by
 have h:=fun l k_ h_=>CE aA 142 1 rfl (fun _=>rfl) l k_ h_ rfl
 simp only[aA,RR,ak,al] at h
 exact h
def be:=by
 have h:=fun l k_ h_=>CE ap 96 1 rfl (fun _=>rfl) l k_ h_ rfl
 simp only[ap,RR,ak,al] at h
 exact h
def fV:=by
 have h:=fun l k_ h_=>CE aw 189 1 rfl (fun _=>rfl) l k_ h_ rfl
 simp only[aw,RR,ak,al] at h
 exact h
def fW:=by
 have h:=fun l k_ h_=>CE aM 141 1 rfl (fun _=>rfl) l k_ h_ rfl
 simp only[aM,RR,ak,al] at h
 exact h
def iu:=by
 have h:=gC fun x k_ h_=>CE ef 72 16 rfl (fun _=>rfl) x k_ h_ rfl
 simp only[ef,RR,ak,al] at h
 exact h
def zS:=by
 have h:=rO fun x k_=>CE fj 235 7 rfl (fun _=>rfl) x k_ trivial rfl
 simp only[fj,RR,ak,al] at h
 exact h
def zT:=by
 have h:=fun l  limit=>rO fun x k_=>CE dK 191 2 rfl (fun _=>rfl) (l,limit,x) k_ trivial rfl
 simp only[dK,RR,ak,al] at h
 exact h
def zU:=by
 have h:=fun l  limit=>rO fun x k_ h_=>CE dL 147 1 rfl (fun _=>rfl) (l,limit,x) k_ h_ rfl
 simp only[dL,RR,ak,al] at h
 exact h
def rd:=by
 have h:=oG fun n  o k_=>CE dM 86 1 rfl (fun _=>rfl) (n,o) k_ trivial rfl
 simp only[dM,RR,ak,al] at h
 exact h
def lF:=by
 have h:=fun l  n k_=>CE dq 78 1 rfl (fun _=>rfl) (l,n) k_ trivial rfl
 simp only[dq,RR,ak,al] at h
 exact h
def re:=by
 have h:=fun l  self k_=>CE cQ 34 2 rfl (fun _=>rfl) (l,self) k_ trivial rfl
 simp only[cQ,RR,ak,al] at h
 exact h
def zV:=by
 have h:=fun self=>oG fun n  t k_ h_=>CE dN 46 1 rfl (fun _=>rfl) (self,n,t) k_ h_ rfl
 simp only[dN,RR,ak,al] at h
 exact h
def BW:=by
 have h:=vv fun m k_=>CE gp 155 1 rfl (fun _=>rfl) m k_ trivial rfl
 simp only[gp,RR,ak,al] at h
 exact h
def pS:=by
 have h:=fun l k_=>CE dr 198 1 rfl (fun _=>rfl) l k_ trivial rfl
 simp only[dr,RR,ak,al] at h
 exact h
def Dy:=by
 have h:=fun l k_=>CE gr 195 1 rfl (fun _=>rfl) l k_ trivial rfl
 simp only[gr,RR,ak,al] at h
 exact h
def zW:=by
 have h:=vv fun m k_=>CE fk 196 1 rfl (fun _=>rfl) m k_ trivial rfl
 simp only[fk,RR,ak,al] at h
 exact h
def zX:=by
 have h:=vv fun m k_=>CE fm 197 1 rfl (fun _=>rfl) m k_ trivial rfl
 simp only[fm,RR,ak,al] at h
 exact h
theorem ma{l:List Int}{n:Int}(h:l=[]∧0≤n∧n≤1000000):dF [L l,I n]=some [L l]:=kO (a:=(l,n)) (by rintro ⟨_,_⟩ ⟨_,_⟩ h;simpa[dH,sF] using h) h
theorem aW{l:List Int}{n:Int}{k_:PV→Prop}(h:l=[]∧0≤n∧n≤1000000):CALL ρ 237 [L l,I n] 1 k_=k_ (L l):=kP (ρ:=ρ) (K:=237) (m:=1) (k:=k_) (ma h) rfl
def ku:=by
 have h:=fun ls k_ h_=>CE aG 199 1 rfl (fun _=>rfl) ls k_ h_ rfl
 simp only[aG,RR,ak,al] at h
 exact h
def BX:=by
 have h:=vv fun m k_=>CE eV 154 17 rfl (fun _=>rfl) m k_ trivial rfl
 simp only[eV,RR,ak,al] at h
 exact h
def rf:=by
 have h:=vv fun m k_=>CE dO 88 1 rfl (fun _=>rfl) m k_ trivial rfl
 simp only[dO,RR,ak,al] at h
 exact h
def xr:=by
 have h:=fun t  self  limit  l k_ h_=>CE cj 80 2 rfl (fun _=>rfl) (t,self,limit,l) k_ h_ rfl
 simp only[cj,RR,ak,al] at h
 exact h
def xt:=by
 have h:=fun l k_ h_=>CE ck 33 2 rfl (fun _=>rfl) l k_ h_ rfl
 simp only[ck,RR,ak,al] at h
 exact h
def xu:=by
 have h:=fun n  top k_ h_=>CE eg 150 2 rfl (fun _=>rfl) (n,top) k_ h_ rfl
 simp only[eg,RR,ak,al] at h
 exact h
def xv:=by
 have h:=fun e  n k_=>CE eh 151 5 rfl (fun _=>rfl) (e,n) k_ trivial rfl
 simp only[eh,RR,ak,al] at h
 exact h
def xw:=by
 have h:=pP fun s k_=>CE ei 153 1 rfl (fun _=>rfl) s k_ trivial rfl
 simp only[ei,RR,ak,al] at h
 exact h
def rq:=by
 have h:=gC fun x k_ h_=>CE ce 236 16 rfl (fun _=>rfl) x k_ h_ rfl
 simp only[ce,RR,ak,al] at h
 exact h
def xx:=by
 have h:=cL fun c  t  self=>gC fun x k_ h_=>CE dt 193 17 rfl (fun _=>rfl) (c,t,self,x) k_ h_ rfl
 simp only[dt,RR,ak,al] at h
 exact h
def ug:=by
 have h:=cL fun c  t  self=>gC fun x k_ h_=>CE cD 83 17 rfl (fun _=>rfl) (c,t,self,x) k_ h_ rfl
 simp only[cD,RR,ak,al] at h
 exact h
def zY:=by
 have h:=cL fun c  t  self=>gC fun x k_ h_=>CE dP 84 17 rfl (fun _=>rfl) (c,t,self,x) k_ h_ rfl
 simp only[dP,RR,ak,al] at h
 exact h
def rr:=by
 have h:=gC fun x k_=>CE cf 81 1 rfl (fun _=>rfl) x k_ trivial rfl
 simp only[cf,RR,ak,al] at h
 exact h
def sZ:=by
 have h:=vv fun m k_ h_=>CE gt 87 16 rfl (fun _=>rfl) m k_ h_ rfl
 simp only[gt,RR,ak,al] at h
 exact h
def zZ:=by
 have h:=fun self=>oG fun n  l k_ h_=>CE dQ 37 2 rfl (fun _=>rfl) (self,n,l) k_ h_ rfl
 simp only[dQ,RR,ak,al] at h
 exact h
theorem pT{z0 z1 z2 z3 z4 z5 z6 z7:Int}{z8:Bool}{z9:Int}{y0:List Peer}{y1:List Topic}{y2:List Call}{y3 y4:Int}{y5:List Mark}{y6:List Mark2}{y7:List Msg}{k_:PV→PV→Prop}(h:cV (Node.mk z8 z9 y0 y1 y2 y3 y4 y5 y6)=false∧y7.length≤1000∧ ∀m∈y7,m.path.length≤30∧m.todo.length≤30):CALL ρ 38 [I z0,I z1,I z2,I z3,I z4,I z5,I z6,I z7,bb z8,I z9,L y0,L y1,L y2,I y3,I y4,L y5,L y6,L y7] 2 k_=(fun (c:Config) (n:Node)=>k_ (L (qx c z7 n y7).1) (I (qx c z7 n y7).2)) (Config.mk z0 z1 z2 z3 z4 z5 z6) (Node.mk z8 z9 y0 y1 y2 y3 y4 y5 y6):=BH (F:=ej) rfl (fun _=>rfl) ((Config.mk z0 z1 z2 z3 z4 z5 z6),z7,(Node.mk z8 z9 y0 y1 y2 y3 y4 y5 y6),y7) h rfl
theorem ju{z0 z1 z2 z3 z4 z5 z6 z7:Int}{z8:Bool}{z9:Int}{y0:List Peer}{y1:List Topic}{y2:List Call}{y3 y4:Int}{y5:List Mark}{y6:List Mark2}{k_:PV→PV→PV→PV→PV→PV→PV→PV→PV→PV→PV→Prop}(h:cV (Node.mk z8 z9 y0 y1 y2 y3 y4 y5 y6)=false):CALL ρ 10 [I z0,I z1,I z2,I z3,I z4,I z5,I z6,I z7,bb z8,I z9,L y0,L y1,L y2,I y3,I y4,L y5,L y6] 11 k_=(fun (c:Config) (n:Node)=>k_ (bb ((ew c z7 n).1).up) (I ((ew c z7 n).1).inc) (L ((ew c z7 n).1).peers) (L ((ew c z7 n).1).topics) (L ((ew c z7 n).1).calls) (I ((ew c z7 n).1).pubs) (I ((ew c z7 n).1).asks) (L ((ew c z7 n).1).marks) (L ((ew c z7 n).1).taken) (L (ew c z7 n).2.1) (I (ew c z7 n).2.2)) (Config.mk z0 z1 z2 z3 z4 z5 z6) (Node.mk z8 z9 y0 y1 y2 y3 y4 y5 y6):=BH (F:=fo) rfl (fun _=>rfl) ((Config.mk z0 z1 z2 z3 z4 z5 z6),z7,(Node.mk z8 z9 y0 y1 y2 y3 y4 y5 y6)) h rfl
theorem oe  {k_:PV→Prop}:CALL ρ 11 [] 1 k_=k_ (bb true):=BG (F:=eF) rfl (fun _ _ _=>rfl) () trivial rfl
def A3:=by
 have h:=fun t  self k_=>CE dR 30 1 rfl (fun _=>rfl) (t,self) k_ trivial rfl
 simp only[dR,RR,ak,al] at h
 exact h
def og:=by
 have h:=fun t k_=>CE cE 8 1 rfl (fun _=>rfl) t k_ trivial rfl
 simp only[cE,RR,ak,al] at h
 exact h
theorem BZ{z0 z1:Int}:iX [I z0,I z1]=some [bb true]:=Em (F:=bR) (a:=(z0,z1)) (fun _=>rfl) trivial
theorem C0{z0 z1:Int}:iY [I z0,I z1]=some [bb true]:=Em (F:=bT) (a:=(z0,z1)) (fun _=>rfl) trivial
def A4:=by
 have h:=oG fun n k_ h_=>CE dS 32 9 rfl (fun _=>rfl) n k_ h_ rfl
 simp only[dS,RR,ak,al] at h
 exact h
end Go.Xt
