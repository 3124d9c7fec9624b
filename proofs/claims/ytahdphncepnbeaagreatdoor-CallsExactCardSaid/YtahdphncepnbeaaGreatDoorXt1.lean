/- Steps towards the statements of this seat; the conditions stand in each theorem. -/
import Derived.LaidHandle
import Derived.Test.YtahdphncepnbeaaGreatDoorXtDefs
namespace Go.Xt
open Go.RowKit
structure Kap where
 m:Nat→Option Nat
 o:Nat→Prop
instance:CoeFun Kap (fun _=>Nat→Option Nat):=⟨Kap.m⟩
structure Bas (P:Program) where
 b:Nat
 o:Nat→Prop
instance {P:Program}:CoeOut (Bas P) Nat:=⟨Bas.b⟩
def SW(P:Program):List (Addr×Value) :=
 match P.globalNamed "errors.errorType", (P.cutTypes.find? (·.1 == "internal/reflectlite.rtype")).map (·.2),(List.range P.types.size).filter fun t=>P.rowNamed t [101,114,114,111,114] with
 | some g,some r,[e]=>[(⟨g,0,none⟩,.iface r (.agg #[typeHandle P e]))]
 | _,_,_=>[]
def Laid(P:Program)(b:Nat)(w:World):Prop:= ∀p∈SW P,p.1.block<b∧w.cell? p.1=some p.2
theorem Laid.up{P:Program}{b c:Nat}{w:World}(h:Laid P b w)(hb:b≤c):Laid P c w:=fun p hp=>⟨Nat.lt_of_lt_of_le (h p hp).1 hb,(h p hp).2⟩
theorem Laid.below{P:Program}{b:Nat}{w w':World}(h:Laid P b w)(hb:b≤w.heap.size)(hB:Below w.heap.size w w'):Laid P w'.heap.size w':=fun p hp=>by
 obtain ⟨h1,h2⟩:=h p hp
 have:=hB.size
 exact ⟨by omega,by rw[hB.cell (by omega)];exact h2⟩
def Own(κ:Kap)(g:Nat):Prop:=κ.o g∨ ∃b,κ b=some g
def yj(κ:Kap)(b g:Nat):Prop:=κ.o g∨ ∃b',b'≠b∧κ b'=some g
def OX(κ:Kap):Option Nat→Nat→Prop
 | none,g=>Own κ g
 | some b,g=>yj κ b g
def upd(κ:Kap)(b:Nat)(x:Option Nat):Kap:={ κ with m:=fun n=>if n=b then x else κ n }
def Er1(w:World)(O:Nat→Prop)(θ:ETy)(e:Int)(v:Value):Prop :=
 ∃(b:Nat) (s:ByteArray),v=.iface θ.tw (.pointer (some ⟨b,0,none⟩))∧ ¬O b∧w.cell? ⟨b,0,none⟩=some (.string s)∧w.cell? ⟨b,1,none⟩=some (.iface θ.te (.int .i64 e))∧inr .i64 e
def sQ(w:World)(O:Nat→Prop)(θ:ETy)(j:Bool)(l:List Int)(v:Value):Prop :=
 (l=[]∧v=.nilIface)∨(j=false∧ ∃e,l=[e]∧Er1 w O θ e v) ∨
 (j=true∧l≠[]∧ ∃(b g c:Nat),v=.iface θ.tj (.pointer (some ⟨b,0,none⟩))∧ ¬O b∧w.cell? ⟨b,0,none⟩=some (.slice (some ⟨g,0,none⟩) l.length c)∧l.length≤c∧ ¬O g ∧
  ∀i e,l[i]? =some e→ ∃u,w.cell? ⟨g,i,none⟩=some u∧Er1 w O θ e u)
inductive RP (w:World) (O:Nat→Prop):PV→Value→Prop where
 | int {k n} (h:inr k n):RP w O (.int k n) (.int k n)
 | bool {b}:RP w O (.bool b) (.bool b)
 | str {s}:RP w O (.str s) (.string s)
 | err {θ j l v} (h:sQ w O θ j l v):RP w O (.err θ j l) v
 | list {xs:List (List PV)} {A:Option Addr} {n c es:Nat} (f:Nat→Nat→Value) (ad:Addr) (hn:xs.length=n) (hc:n≤c) (hm:n≤2 ^ 63-1)
   (hes: ∀i,i<n→(xs.getD i []).length=es) (hA:0<n→A=some ad) (hO:0<n→0<es→ ¬O ad.block)
   (hcell: ∀i j,i<n→j<es→w.cell? (ad.add (i*es+j))=some (f i j))
   (hsub: ∀i j,i<n→j<es→RP w O (look (xs.getD i []) j) (f i j)):RP w O (.list xs) (.slice A n c)
theorem dp(a:Addr)(n:Nat):(a.add n).block=a.block:=by unfold Addr.add;split<;>rfl
theorem wH(a:Addr)(m n:Nat):(a.add m).add n=a.add (m+n):=by
 unfold Addr.add
 by_cases h1:m=0<;>by_cases h2:n=0<;>simp[h1,h2,Nat.add_assoc]
theorem kx(g o n:Nat):(⟨g,o,none⟩:Addr).add n=⟨g,o+n,none⟩:=by
 unfold Addr.add;split<;>simp_all
theorem dr{w w':World}{a:Addr}(h:w'.heap[a.block]? =w.heap[a.block]?):w'.cell? a=w.cell? a:=World.cell?_of_block h
theorem cell_lt{w:World}{a:Addr}{v:Value}(h:w.cell? a=some v):a.block<w.heap.size:=World.block_lt_of_cell? w a h
theorem GK{w:World}{g:Nat}{o:Obj}(h:w.heap[g]? =some o):g<w.heap.size:=(Array.getElem?_eq_some_iff.1 h).1
theorem mX{w:World}{g:Nat}{cells:Array Value}{T:TypeId}{fr:Nat×Nat}(h:w.heap[g]? =some (.cells cells T fr))(o:Nat) :
  w.cell? ⟨g,o,none⟩=cells[o]? :=by simp[World.cell?,h]
theorem Er1.mono{w w':World}{O O':Nat→Prop}{θ:ETy}{e:Int}{v:Value}(h:Er1 w O θ e v)
  (hk: ∀g,g<w.heap.size→ ¬O g→w'.heap[g]? =w.heap[g]? ∧ ¬O' g):Er1 w' O' θ e v:=by
 obtain ⟨b,s,h1,h2,h3,h4,h5⟩:=h
 have hb:=hk b (cell_lt h3) h2
 exact ⟨b,s,h1,hb.2,by rw[dr (w:=w) hb.1];exact h3,by rw[dr (w:=w) hb.1];exact h4,h5⟩
theorem sQ.shape{w:World}{O:Nat→Prop}{θ:ETy}{j:Bool}{l:List Int}{v:Value}(h:sQ w O θ j l v):v=.nilIface∨ ∃t u,v=.iface t u:=by
 rcases h with ⟨_,h⟩ | ⟨_,e,_,b,s,h,_⟩ | ⟨_,_,b,g,c,h,_⟩
 ·exact .inl h
 ·exact .inr ⟨_,_,h⟩
 ·exact .inr ⟨_,_,h⟩
theorem sQ.mono{w w':World}{O O':Nat→Prop}{θ:ETy}{j:Bool}{l:List Int}{v:Value}(h:sQ w O θ j l v)
  (hk: ∀g,g<w.heap.size→ ¬O g→w'.heap[g]? =w.heap[g]? ∧ ¬O' g):sQ w' O' θ j l v:=by
 rcases h with h | ⟨hj,e,h1,h2⟩ | ⟨hj,hl,b,g,c,h1,h2,h3,h4,h5,h6⟩
 ·exact .inl h
 ·exact .inr (.inl ⟨hj,e,h1,h2.mono hk⟩)
 ·have hb:=hk b (cell_lt h3) h2
  have hg:w'.heap[g]? =w.heap[g]? ∧ ¬O' g:=by
   obtain ⟨e,r,rfl⟩:=List.exists_cons_of_ne_nil hl
   obtain ⟨u,hu,_⟩:=h6 0 e rfl
   exact hk g (cell_lt hu) h5
  refine .inr (.inr ⟨hj,hl,b,g,c,h1,hb.2,by rw[dr (w:=w) hb.1];exact h3,h4,hg.2,fun i e he=>?_⟩)
  obtain ⟨u,hu,hr⟩:=h6 i e he
  exact ⟨u,by rw[dr (w:=w) hg.1];exact hu,hr.mono hk⟩
theorem RP.mono{w w':World}{O O':Nat→Prop}{p:PV}{v:Value}(h:RP w O p v)
  (hk: ∀g,g<w.heap.size→ ¬O g→w'.heap[g]? =w.heap[g]? ∧ ¬O' g):RP w' O' p v:=by
 induction h with
 | int h=>exact .int h
 | bool=>exact .bool
 | str=>exact .str
 | err h=>exact .err (h.mono hk)
 | @list xs A n c es f ad hn hc hm hes hA hO hcell hsub ih =>
  have key:0<n→0<es→w'.heap[ad.block]? =w.heap[ad.block]? ∧ ¬O' ad.block:=fun hp he =>
   hk _ (by have:=cell_lt (hcell 0 0 hp he);rwa [dp] at this) (hO hp he)
  refine .list f ad hn hc hm hes hA (fun hp he=>(key hp he).2) (fun i j hi hj=>?_) ih
  rw[dr (w:=w) (by rw[dp];exact (key (by omega) (by omega)).1)]
  exact hcell i j hi hj
def RL(w:World)(O O':Nat→Prop)(p:PV)(v:Value):Prop :=
 ∃(xs:List (List PV)) (A:Option Addr) (n c es:Nat) (f:Nat→Nat→Value) (ad:Addr),p=.list xs∧v=.slice A n c∧xs.length=n∧n≤c∧n≤2 ^ 63-1 ∧
  (∀i,i<n→(xs.getD i []).length=es)∧(0<n→A=some ad)∧(0<n→0<es→ ¬O' ad.block) ∧
  (∀i j,i<n→j<es→w.cell? (ad.add (i*es+j))=some (f i j))∧(∀i j,i<n→j<es→RP w O (look (xs.getD i []) j) (f i j))
theorem RL.mono{w w':World}{O O' O2 O2':Nat→Prop}{p:PV}{v:Value}(h:RL w O O' p v)
  (hk: ∀g,g<w.heap.size→ ¬O g→w'.heap[g]? =w.heap[g]? ∧ ¬O2 g) (hk': ∀g,g<w.heap.size→ ¬O' g→w'.heap[g]? =w.heap[g]? ∧ ¬O2' g):RL w' O2 O2' p v:=by
 obtain ⟨xs,A,n,c,es,f,ad,hp,hv,hn,hc,hm,hes,hA,hO,hcell,hsub⟩:=h
 have key:0<n→0<es→w'.heap[ad.block]? =w.heap[ad.block]? ∧ ¬O2' ad.block:=fun hp he =>
  hk' _ (by have:=cell_lt (hcell 0 0 hp he);rwa [dp] at this) (hO hp he)
 refine ⟨xs,A,n,c,es,f,ad,hp,hv,hn,hc,hm,hes,hA,fun hp he=>(key hp he).2,fun i j hi hj=>?_,fun i j hi hj=>(hsub i j hi hj).mono hk⟩
 rw[dr (w:=w) (by rw[dp];exact (key (by omega) (by omega)).1)]
 exact hcell i j hi hj
theorem RL.plain{w O p v}(h:RL w O O p v):RP w O p v:=by
 obtain ⟨xs,A,n,c,es,f,ad,rfl,rfl,hn,hc,hm,hes,hA,hO,hcell,hsub⟩:=h
 exact .list f ad hn hc hm hes hA hO hcell hsub
theorem RP.list_of{w O xs v}(h:RP w O (.list xs) v):RL w O O (.list xs) v:=by
 cases h with
 | list f ad hn hc hm hes hA hO hcell hsub=>exact ⟨xs,_,_,_,_,f,ad,rfl,rfl,hn,hc,hm,hes,hA,hO,hcell,hsub⟩
theorem RL.any{w O O' p v}(h:RL w O O' p v):RP w (fun _=>False) p v :=
 (h.mono (O2:=fun _=>False) (O2':=fun _=>False) (fun _ _ _=>⟨rfl,fun h=>h⟩) (fun _ _ _=>⟨rfl,fun h=>h⟩)).plain
theorem RP.good{w O p v}(h:RP w O p v):sA p:=by
 cases h with
 | int h=>exact h
 | bool=>trivial
 | str=>trivial
 | err _=>trivial
 | list _ _ hn _ hm=>simpa[sA,hn] using hm
def aw{α β:Type}(R:α→β→Prop):List α→List β→Prop
 | [],[]=>True
 | a::as,b::bs=>R a b∧aw R as bs
 | _,_=>False
theorem aw.length{α β:Type}{R:α→β→Prop}: ∀ {as:List α} {bs:List β},aw R as bs→as.length=bs.length
 | [],[],_=>rfl
 | _::_,_::_,h=>by simp[aw.length h.2]
 | [],_::_,h=>h.elim
 | _::_,[],h=>h.elim
theorem aw.imp{α β:Type}{R R':α→β→Prop}(hr: ∀a b,R a b→R' a b): ∀ {as:List α} {bs:List β},aw R as bs→aw R' as bs
 | [],[],_=>trivial
 | _::_,_::_,h=>⟨hr _ _ h.1,aw.imp hr h.2⟩
 | [],_::_,h=>h.elim
 | _::_,[],h=>h.elim
theorem aw.map{α β γ:Type}{R:α→β→Prop}{R':γ→β→Prop}(f:α→γ)(hr: ∀a b,R a b→R' (f a) b): ∀ {as:List α} {bs:List β},aw R as bs→aw R' (as.map f) bs
 | [],[],_=>trivial
 | _::_,_::_,h=>⟨hr _ _ h.1,aw.map f hr h.2⟩
 | [],_::_,h=>h.elim
 | _::_,[],h=>h.elim
theorem aw.impMem{α β:Type}{R R':α→β→Prop}: ∀ {as:List α} {bs:List β},(∀a b,a∈as→R a b→R' a b)→aw R as bs→aw R' as bs
 | [],[],_,_=>trivial
 | _::_,_::_,hr,h=>⟨hr _ _ (by simp) h.1,aw.impMem (fun a b ha=>hr a b (by simp[ha])) h.2⟩
 | [],_::_,_,h=>h.elim
 | _::_,[],_,h=>h.elim
theorem aw.get{α β:Type}{R:α→β→Prop}: ∀ {as:List α} {bs:List β},aw R as bs→ ∀(i:Nat) (a:α),as[i]? =some a→ ∃b,bs[i]? =some b∧R a b
 | [],[],_,i,a,h=>by simp at h
 | a::as,b::bs,h,0,x,hx=>by simp at hx;subst hx;exact ⟨b,by simp,h.1⟩
 | a::as,b::bs,h,i+1,x,hx=>by simpa using aw.get h.2 i x (by simpa using hx)
 | [],_::_,h,_,_,_=>h.elim
 | _::_,[],h,_,_,_=>h.elim
theorem aw.getR{α β:Type}{R:α→β→Prop}: ∀ {as:List α} {bs:List β},aw R as bs→ ∀(i:Nat) (b:β),bs[i]? =some b→ ∃a,as[i]? =some a∧R a b
 | [],[],_,i,a,h=>by simp at h
 | a::as,b::bs,h,0,x,hx=>by simp at hx;subst hx;exact ⟨a,by simp,h.1⟩
 | a::as,b::bs,h,i+1,x,hx=>by simpa using aw.getR h.2 i x (by simpa using hx)
 | [],_::_,h,_,_,_=>h.elim
 | _::_,[],h,_,_,_=>h.elim
theorem aw.take{α β:Type}{R:α→β→Prop}: ∀(n:Nat) {as:List α} {bs:List β},aw R as bs→aw R (as.take n) (bs.take n)
 | 0,_,_,_=>by simp[aw]
 | n+1,[],[],_=>by simp[aw]
 | n+1,_::_,_::_,h=>by simpa[aw] using ⟨h.1,aw.take n h.2⟩
 | _+1,[],_::_,h=>h.elim
 | _+1,_::_,[],h=>h.elim
theorem aw.drop{α β:Type}{R:α→β→Prop}: ∀(n:Nat) {as:List α} {bs:List β},aw R as bs→aw R (as.drop n) (bs.drop n)
 | 0,_,_,h=>by simpa using h
 | n+1,[],[],_=>by simp[aw]
 | n+1,_::_,_::_,h=>by simpa using aw.drop n h.2
 | _+1,[],_::_,h=>h.elim
 | _+1,_::_,[],h=>h.elim
theorem aw.append{α β:Type}{R:α→β→Prop}: ∀ {as as':List α} {bs bs':List β},aw R as bs→aw R as' bs'→aw R (as++as') (bs++bs')
 | [],_,[],_,_,h=>by simpa using h
 | _::_,_,_::_,_,h,h'=>⟨h.1,aw.append h.2 h'⟩
 | [],_,_::_,_,h,_=>h.elim
 | _::_,_,[],_,h,_=>h.elim
theorem aw.set{α β:Type}{R:α→β→Prop}: ∀(i:Nat) (a:α) (b:β) {as:List α} {bs:List β},R a b→aw R as bs→aw R (as.set i a) (bs.set i b)
 | _,_,_,[],[],_,_=>by simp[aw]
 | 0,_,_,_::_,_::_,hr,h=>⟨hr,h.2⟩
 | i+1,a,b,_::_,_::_,hr,h=>⟨h.1,aw.set i a b hr h.2⟩
 | _,_,_,[],_::_,_,h=>h.elim
 | _,_,_,_::_,[],_,h=>h.elim
section
variable (env:List PV)(κ:Kap)(H:List (Nat×Blk))(w:World)
def lh:Cap→Value→Prop
 | .at a,v=>a.lt env.length=true∧RP w (Own κ) (den env a) v
 | .ptr b off,v=> ∃cs g,av H b=some (.box cs)∧κ b=some g∧v=.pointer (some ⟨g,off,none⟩)
 | .agg as,v=> ∃vs:Array Value,v=.agg vs∧aw (fun a u=>Atom.lt env.length a=true∧RP w (Own κ) (den env a) u) as vs.toList
def aR:C→Value→Prop
  | .at a,v=>a.lt env.length=true∧RP w (Own κ) (den env a) v
  | .nil0,v=> ∃A,v=.slice A 0 0
  | .own b,v=> ∃es a xs,av H b=some (.arr es a)∧a.lt env.length=true∧den env a=.list xs ∧
      ((κ b=none∧xs=[]∧ ∃A,v=.slice A 0 0) ∨
       ∃g c cells T,κ b=some g∧v=.slice (some ⟨g,0,none⟩) xs.length c∧xs.length≤c∧w.heap[g]? =some (.cells cells T (0,0))∧cells.size=c*es)
  | .bor b a,v=>a.lt env.length=true∧(∃es a',av H b=some (.arr es a'))∧RL w (Own κ) (yj κ b) (den env a) v
  | .ptr b off,v=> ∃cs g,av H b=some (.box cs)∧κ b=some g∧v=.pointer (some ⟨g,off,none⟩)
  | .aptr b i off,v=>i.lt env.length=true∧ ∃es a xs g k m,av H b=some (.arr es a)∧a.lt env.length=true∧den env a=.list xs∧κ b=some g∧den env i=.int k m ∧
      0≤m∧m<xs.length∧v=.pointer (some ⟨g,m.toNat*es+off,none⟩)
  | .eptr bo l i off m,v=>l.lt env.length=true∧i.lt env.length=true∧(∀b,bo=some b→ ∃es a',av H b=some (.arr es a')) ∧
      ∃ad:Addr,v=.pointer (some ad)∧ ∀j,off+j<m →
        ¬OX κ bo ad.block∧ ∃u,w.cell? (ad.add j)=some u∧RP w (Own κ) (den env (.cell l i (off+j))) u
  | .fn K caps,v=> ∃vs:Array Value,v=.func (.func K) #[] vs∧aw (lh env κ H w) caps vs.toList
  | .undef,v=>v=Go.undef
  | .junk,_=>True
def sR:Bool×List C→Value→Prop
 | (true,cs),v=> ∃vs:Array Value,v=.agg vs∧aw (aR env κ H w) cs vs.toList
 | (false,cs),v=> ∃c,cs=[c]∧aR env κ H w c v
def bV:SV→Value→Prop
 | .one c,v=>aR env κ H w c v
 | .agg cs,v=> ∃vs:Array Value,v=.agg vs∧aw (aR env κ H w) cs vs.toList
 | .tup ps,v=> ∃vs:Array Value,v=.tuple vs∧aw (sR env κ H w) ps vs.toList
def lj(b:Nat):Blk→Prop
  | .box cs=> ∃g cells T,κ b=some g∧w.heap[g]? =some (.cells cells T (0,0))∧aw (aR env κ H w) cs cells.toList
  | .arr es a=>a.lt env.length=true∧0<es∧ ∃xs,den env a=.list xs∧xs.length≤2 ^ 63-1∧(∀i,i<xs.length→(xs.getD i []).length=es) ∧
      ((κ b=none∧xs=[]) ∨
       ∃g cells T c,κ b=some g∧w.heap[g]? =some (.cells cells T (0,0))∧cells.size=c*es∧xs.length≤c ∧
         ∀i j,i<xs.length→j<es→ ∃u,cells[i*es+j]? =some u∧RP w (Own κ) (look (xs.getD i []) j) u)
end
structure Rel {P:Program} (B:Bas P) (env:List PV) (κ:Kap) (cs:CS) (tm:Nat→Value) (w:World):Prop where
 henv:env.length=cs.d
 hslot: ∀t sv,av cs.slots t=some sv→bV env κ cs.heap w sv (tm t)∧t<cs.nf
 hblk: ∀b blk,av cs.heap b=some blk→lj env κ cs.heap w b blk
 hκ: ∀b g,κ b=some g→(av cs.heap b).isSome=true∧B≤g∧g<w.heap.size
 hinj: ∀b b' g,κ b=some g→κ b'=some g→b=b'
 hknown: ∀a b,(a,b)∈cs.known→a.lt cs.d=true∧den env a=.bool b
 hB:B≤w.heap.size
 hoth:κ.o=B.o
 hob: ∀g,B.o g→g<B.b
 hgl:Laid P B.b w
 hnf:cs.fb+cs.nt≤cs.nf
theorem sS(l l':List PV)(i:Nat)(h:i<l.length):look (l++l') i=look l i:=by
 induction l generalizing i with
 | nil=>simp at h
 | cons x l ih=>cases i with
  | zero=>rfl
  | succ i=>simpa[look] using ih i (by simpa using h)
theorem ej(env l:List PV)(a:Atom)(h:a.lt env.length=true):den (env++l) a=den env a:=by
 induction a with
 | v i=>exact sS _ _ _ (by simpa[Atom.lt] using h)
 | c l=>rfl
 | cell l i j ihl ihi=>simp only[Atom.lt,Bool.and_eq_true] at h;simp[den,ihl h.1,ihi h.2]
theorem Atom.lt_mono{m n:Nat}(hmn:m≤n){a:Atom}(h:a.lt m=true):a.lt n=true:=by
 induction a with
 | v i=>simp[Atom.lt] at h ⊢;omega
 | c l=>rfl
 | cell l i j ihl ihi=>simp only[Atom.lt,Bool.and_eq_true] at h ⊢;exact ⟨ihl h.1,ihi h.2⟩
theorem ii(l:List PV)(x:PV)(r:List PV):look (l++x::r) l.length=x:=by
 induction l with
 | nil=>rfl
 | cons y l ih=>simpa[look] using ih
section
variable {env env':List PV}{κ κ':Kap}{H H':List (Nat×Blk)}{w w':World}
structure FocS (env env':List PV) (κ κ':Kap) (H H':List (Nat×Blk)) (w w':World) (S:Nat→Prop):Prop where
 pre: ∃l,env'=env++l
 kap: ∀b',¬S b'→κ' b'=κ b'
 oth:κ'.o=κ.o
 arr: ∀b' es a,¬S b'→av H b'=some (.arr es a)→av H' b'=some (.arr es a)
 box: ∀b' cs,¬S b'→av H b'=some (.box cs)→ ∃cs',av H' b'=some (.box cs')
 blk: ∀g,g<w.heap.size→(∀b0,S b0→κ b0≠some g)→w'.heap[g]? =w.heap[g]?
 new: ∀b0 g,S b0→κ' b0=some g→κ b0=some g∨w.heap.size≤g
 inj: ∀b1 b2 g,κ b1=some g→κ b2=some g→b1=b2
 siz:w.heap.size≤w'.heap.size
abbrev Foc(env env':List PV)(κ κ':Kap)(H H':List (Nat×Blk))(w w':World)(b:Option Nat):Prop:=FocS env env' κ κ' H H' w w' fun x=>some x=b
theorem FocS.own{S:Nat→Prop}(F:FocS env env' κ κ' H H' w w' S)(g:Nat)(hg:g<w.heap.size)(h: ¬Own κ g):w'.heap[g]? =w.heap[g]? ∧ ¬Own κ' g:=by
 refine ⟨F.blk g hg fun b0 _ hb=>h (.inr ⟨b0,hb⟩),?_⟩
 rintro (ho | ⟨b',hb'⟩)
 ·exact h (.inl (F.oth▸ho))
 ·by_cases e:S b'
  ·rcases F.new b' g e hb' with h1 | h1
   ·exact h (.inr ⟨_,h1⟩)
   ·omega
  ·exact h (.inr ⟨b',(F.kap b' e)▸hb'⟩)
theorem FocS.ownX{S:Nat→Prop}{b':Nat}(hne: ¬S b')(F:FocS env env' κ κ' H H' w w' S)(g:Nat)(hg:g<w.heap.size)(h: ¬yj κ b' g):w'.heap[g]? =w.heap[g]? ∧ ¬yj κ' b' g:=by
 refine ⟨F.blk g hg fun b0 h0 hb=>h (.inr ⟨b0,fun e=>hne (e▸h0),hb⟩),?_⟩
 rintro (ho | ⟨b2,h2,hb2⟩)
 ·exact h (.inl (F.oth▸ho))
 ·by_cases e:S b2
  ·rcases F.new b2 g e hb2 with h1 | h1
   ·exact h (.inr ⟨_,h2,h1⟩)
   ·omega
  ·exact h (.inr ⟨b2,h2,(F.kap b2 e)▸hb2⟩)
theorem FocS.obj{S:Nat→Prop}(F:FocS env env' κ κ' H H' w w' S){b' g:Nat}{o:Obj}(hne: ¬S b')(hk:κ b'=some g)(h:w.heap[g]? =some o):w'.heap[g]? =some o:=by
 rw[F.blk g (GK h) fun b0 h0 hb=>hne (F.inj _ _ _ hk hb▸h0)];exact h
theorem jD{a:Atom}(hp: ∃l,env'=env++l)(h:a.lt env.length=true):a.lt env'.length=true∧den env' a=den env a:=by
 obtain ⟨l,rfl⟩:=hp
 exact ⟨Atom.lt_mono (by simp) h,ej _ _ _ h⟩
def Cap.names:Cap→List Nat
 | .ptr b _=>[b]
 | _=>[]
theorem lh.foc{S:Nat→Prop}(F:FocS env env' κ κ' H H' w w' S){c:Cap}{v:Value}(h:lh env κ H w c v)(hn: ∀b'∈c.names,¬S b'):lh env' κ' H' w' c v:=by
 cases c with
 | «at» a =>
  obtain ⟨h1,h2⟩:=h
  obtain ⟨k1,k2⟩:=jD F.pre h1
  exact ⟨k1,by rw[k2];exact h2.mono F.own⟩
 | ptr b' off =>
  obtain ⟨cs,g,h1,h2,h3⟩:=h
  have hne:=hn b' (by simp[Cap.names])
  obtain ⟨cs',h1'⟩:=F.box b' cs hne h1
  exact ⟨cs',g,h1',(F.kap b' hne).trans h2,h3⟩
 | agg as =>
  obtain ⟨vs,rfl,h⟩:=h
  refine ⟨vs,rfl,h.imp fun a u ⟨h1,h2⟩=>?_⟩
  obtain ⟨k1,k2⟩:=jD F.pre h1
  exact ⟨k1,by rw[k2];exact h2.mono F.own⟩
def C.allNames:C→List Nat
 | .own b=>[b]
 | .bor b _=>[b]
 | .ptr b _=>[b]
 | .aptr b _ _=>[b]
 | .eptr (some b) _ _ _ _=>[b]
 | .fn _ caps=>caps.flatMap Cap.names
 | _=>[]
theorem aR.foc{S:Nat→Prop}(F:FocS env env' κ κ' H H' w w' S){c:C}{v:Value}(h:aR env κ H w c v)(hn: ∀b'∈c.allNames,¬S b'):aR env' κ' H' w' c v:=by
 cases c with
 | «at» a =>
  obtain ⟨h1,h2⟩:=h
  obtain ⟨k1,k2⟩:=jD F.pre h1
  exact ⟨k1,by rw[k2];exact h2.mono F.own⟩
 | nil0=>exact h
 | own b' =>
  have hne:=hn b' (by simp[C.allNames])
  obtain ⟨es,a,xs,h1,h0,h2,h3⟩:=h
  obtain ⟨k1,k2⟩:=jD F.pre h0
  refine ⟨es,a,xs,F.arr b' es a hne h1,k1,k2.trans h2,?_⟩
  rcases h3 with ⟨h3,h4⟩ | ⟨g,c,cells,T,h3,h4,h5,h6,h7⟩
  ·exact .inl ⟨(F.kap b' hne).trans h3,h4⟩
  ·exact .inr ⟨g,c,cells,T,(F.kap b' hne).trans h3,h4,h5,F.obj hne h3 h6,h7⟩
 | bor b' a =>
  have hne:=hn b' (by simp[C.allNames])
  obtain ⟨h1,⟨es,a',h2⟩,h3⟩:=h
  obtain ⟨k1,k2⟩:=jD F.pre h1
  exact ⟨k1,⟨es,a',F.arr b' es a' hne h2⟩,by rw[k2];exact h3.mono F.own (F.ownX hne)⟩
 | ptr b' off =>
  have hne:=hn b' (by simp[C.allNames])
  obtain ⟨cs,g,h1,h2,h3⟩:=h
  obtain ⟨cs',h1'⟩:=F.box b' cs hne h1
  exact ⟨cs',g,h1',(F.kap b' hne).trans h2,h3⟩
 | aptr b' i off =>
  have hne:=hn b' (by simp[C.allNames])
  obtain ⟨h0,es,a,xs,g,k,m,h1,h2,h3,h4,h5,h6⟩:=h
  obtain ⟨k1,k2⟩:=jD F.pre h0
  obtain ⟨k3,k4⟩:=jD F.pre h2
  exact ⟨k1,es,a,xs,g,k,m,F.arr b' es a hne h1,k3,k4.trans h3,(F.kap b' hne).trans h4,k2.trans h5,h6⟩
 | eptr bo l i off m =>
  obtain ⟨h1,h2,h3,ad,rfl,h4⟩:=h
  obtain ⟨k1,k2⟩:=jD F.pre h1
  obtain ⟨k3,k4⟩:=jD F.pre h2
  have hne: ∀b',bo=some b'→ ¬S b':=by
   rintro b' rfl;exact hn b' (by simp[C.allNames])
  refine ⟨k1,k3,fun b' hb'=>?_,ad,rfl,fun j hj=>?_⟩
  ·obtain ⟨es,a',h⟩:=h3 b' hb'
   exact ⟨es,a',F.arr b' es a' (hne b' hb') h⟩
  ·obtain ⟨h5,u,h6,h7⟩:=h4 j hj
   have hd:den env' (.cell l i (off+j))=den env (.cell l i (off+j)):=by simp[den,k2,k4]
   have key: ∀g,g<w.heap.size→ ¬OX κ bo g→w'.heap[g]? =w.heap[g]? ∧ ¬OX κ' bo g:=by
    cases bo with
    | none=>exact F.own
    | some b'=>exact F.ownX (hne b' rfl)
   have hlt:ad.block<w.heap.size:=by have:=cell_lt h6;rwa [dp] at this
   refine ⟨(key _ hlt h5).2,u,?_,by rw[hd];exact h7.mono F.own⟩
   rw[dr (w:=w) (by rw[dp];exact (key _ hlt h5).1)];exact h6
 | fn K caps =>
  obtain ⟨vs,rfl,h⟩:=h
  refine ⟨vs,rfl,h.impMem fun c v hc hr=>hr.foc F fun b' hb=>hn b' ?_⟩
  simp only[C.allNames,List.mem_flatMap];exact ⟨c,hc,hb⟩
 | undef=>exact h
 | junk=>trivial
end
theorem wI{α β:Type}(f:α→β)(t:Nat): ∀l:List (Nat×α),av (l.map fun p=>(p.1,f p.2)) t=(av l t).map f
 | []=>rfl
 | (k,v)::r=>by
  simp only[List.map_cons,av]
  split
  ·rfl
  ·exact wI f t r
theorem gF{α:Type}(b t:Nat): ∀l:List (Nat×α),av (MH l b) t=if t=b then none else av l t
 | []=>by simp[MH,av]
 | (k,v)::r=>by
  have ih:=gF b t r
  simp only[MH]
  split
  ·rename_i h;subst h
   rw[ih];simp only[av]
   by_cases e:t=k
   ·simp[e]
   ·simp[e,Ne.symm e]
  ·rename_i h
   simp only[av]
   split
   ·rename_i h2;subst h2;simp[h]
   ·exact ih
theorem yk{α:Type}(b t:Nat)(x:α): ∀l:List (Nat×α),av (P8 l b x) t=if t=b then some x else av l t
 | []=>by simp only[P8,av];split<;>simp_all[eq_comm]
 | (k,v)::r=>by
  have ih:=yk b t x r
  simp only[P8]
  split
  ·rename_i h;subst h
   simp only[av]
   by_cases e:k=t
   ·simp[e]
   ·simp[e,Ne.symm e]
  ·rename_i h
   simp only[av]
   split
   ·rename_i h2;subst h2;simp[h]
   ·exact ih
section
variable {P:Program}{B:Bas P}{env env':List PV}{κ κ':Kap}{cs cs':CS}{tm:Nat→Value}{w w':World}
theorem sR.map{H H':List (Nat×Blk)}{φ:C→C}(hφ: ∀c v,aR env κ H w c v→aR env' κ' H' w' (φ c) v){p:Bool×List C}{v:Value}
  (h:sR env κ H w p v):sR env' κ' H' w' (p.1,p.2.map φ) v:=by
 obtain ⟨t,l⟩:=p
 cases t with
 | true=>obtain ⟨vs,rfl,h⟩:=h;exact ⟨vs,rfl,h.map φ hφ⟩
 | false=>obtain ⟨c,rfl,h⟩:=h;exact ⟨φ c,rfl,hφ _ _ h⟩
theorem bV.map{H H':List (Nat×Blk)}{φ:C→C}(hφ: ∀c v,aR env κ H w c v→aR env' κ' H' w' (φ c) v){sv:SV}{v:Value}
  (h:bV env κ H w sv v):bV env' κ' H' w' (sv.map φ) v:=by
 cases sv with
 | one c=>exact hφ _ _ h
 | agg cs=>obtain ⟨vs,rfl,h⟩:=h;exact ⟨vs,rfl,h.map φ hφ⟩
 | tup ps=>obtain ⟨vs,rfl,h⟩:=h;exact ⟨vs,rfl,h.map _ fun p u hp=>hp.map hφ⟩
theorem lj.foc{S:Nat→Prop}{b':Nat}{H H':List (Nat×Blk)}{φ:C→C}(F:FocS env env' κ κ' H H' w w' S)(hne: ¬S b')
  (hφ: ∀c v,aR env κ H w c v→aR env' κ' H' w' (φ c) v) {blk:Blk} (h:lj env κ H w b' blk):lj env' κ' H' w' b' (blk.map φ):=by
 cases blk with
 | box l =>
  obtain ⟨g,cells,T,h1,h2,h3⟩:=h
  exact ⟨g,cells,T,(F.kap b' hne).trans h1,F.obj hne h1 h2,h3.map φ hφ⟩
 | arr es a =>
  obtain ⟨h1,h2,xs,h3,h4,h5,h6⟩:=h
  obtain ⟨k1,k2⟩:=jD F.pre h1
  refine ⟨k1,h2,xs,k2.trans h3,h4,h5,?_⟩
  rcases h6 with ⟨h6,h7⟩ | ⟨g,cells,T,c,h6,h7,h8,h9,h10⟩
  ·exact .inl ⟨(F.kap b' hne).trans h6,h7⟩
  ·refine .inr ⟨g,cells,T,c,(F.kap b' hne).trans h6,F.obj hne h6 h7,h8,h9,fun i j hi hj=>?_⟩
   obtain ⟨u,hu,hr⟩:=h10 i j hi hj
   exact ⟨u,hu,hr.mono F.own⟩
theorem Rel.focS(R:Rel B env κ cs tm w){S:Nat→Prop}{φ:C→C}(F:FocS env env' κ κ' cs.heap cs'.heap w w' S)
  (hφ: ∀c v,aR env κ cs.heap w c v→aR env' κ' cs'.heap w' (φ c) v)
  (hH: ∀b' blk',¬S b'→av cs'.heap b'=some blk'→ ∃blk,av cs.heap b'=some blk∧blk'=blk.map φ)
  (hb: ∀b0 blk,S b0→av cs'.heap b0=some blk→lj env' κ' cs'.heap w' b0 blk)
  (hs: ∀t sv,av cs'.slots t=some sv→ ∃sv0,av cs.slots t=some sv0∧sv=sv0.map φ)
  (hk: ∀b0 g,S b0→κ' b0=some g→(av cs'.heap b0).isSome=true∧B≤g∧g<w'.heap.size)
  (hii: ∀b1 b2 g,S b1→S b2→κ' b1=some g→κ' b2=some g→b1=b2) (hd:env'.length=cs'.d) (hkn:cs'.known=cs.known) (hfb:cs'.fb=cs.fb) (hnt:cs'.nt=cs.nt) (hnf:cs.nf≤cs'.nf):Rel B env' κ' cs' tm w' where
 henv:=hd
 hslot:=fun t sv h=>by
  obtain ⟨sv0,h1,rfl⟩:=hs t sv h
  obtain ⟨h2,h3⟩:=R.hslot t sv0 h1
  exact ⟨h2.map hφ,by omega⟩
 hblk:=fun b' blk' h=>by
  by_cases e:S b'
  ·exact hb b' blk' e h
  ·obtain ⟨blk,h1,rfl⟩:=hH b' blk' e h
   exact (R.hblk b' blk h1).foc F e hφ
 hκ:=fun b' g h=>by
  by_cases e:S b'
  ·exact hk b' g e h
  ·have h':=(F.kap b' e).symm.trans h
   obtain ⟨h1,h2,h3⟩:=R.hκ b' g h'
   refine ⟨?_,h2,Nat.lt_of_lt_of_le h3 F.siz⟩
   cases hb:av cs.heap b' with
   | none=>rw[hb] at h1;cases h1
   | some blk =>
    cases blk with
    | box l=>obtain ⟨cs1,h5⟩:=F.box b' l e hb;rw[h5];rfl
    | arr es a=>rw[F.arr b' es a e hb];rfl
 hinj:=fun b1 b2 g h1 h2=>by
  by_cases e1:S b1<;>by_cases e2:S b2
  ·exact hii b1 b2 g e1 e2 h1 h2
  ·have h2':=(F.kap b2 e2).symm.trans h2
   rcases F.new b1 g e1 h1 with h3 | h3
   ·exact F.inj _ _ _ h3 h2'
   ·have:=(R.hκ b2 g h2').2.2;omega
  ·have h1':=(F.kap b1 e1).symm.trans h1
   rcases F.new b2 g e2 h2 with h3 | h3
   ·exact F.inj _ _ _ h1' h3
   ·have:=(R.hκ b1 g h1').2.2;omega
  ·exact F.inj _ _ _ ((F.kap b1 e1).symm.trans h1) ((F.kap b2 e2).symm.trans h2)
 hknown:=fun a t h=>by
  rw[hkn] at h
  obtain ⟨h1,h2⟩:=R.hknown a t h
  rw[←R.henv] at h1
  obtain ⟨k1,k2⟩:=jD F.pre h1
  exact ⟨by rw[←hd];exact k1,k2.trans h2⟩
 hB:=Nat.le_trans R.hB F.siz
 hoth:=F.oth.trans R.hoth
 hob:=R.hob
 hgl:=fun p hp=>by
  obtain ⟨h1,h2⟩:=R.hgl p hp
  refine ⟨h1,?_⟩
  rw[dr (w:=w) (F.blk _ (Nat.lt_of_lt_of_le h1 R.hB) fun b0 _ h=>by have:=(R.hκ b0 _ h).2.1;omega)]
  exact h2
 hnf:=by have:=R.hnf;omega
theorem Rel.foc(R:Rel B env κ cs tm w){b:Option Nat}{φ:C→C}(F:Foc env env' κ κ' cs.heap cs'.heap w w' b)
  (hφ: ∀c v,aR env κ cs.heap w c v→aR env' κ' cs'.heap w' (φ c) v)
  (hH: ∀b' blk',some b'≠b→av cs'.heap b'=some blk'→ ∃blk,av cs.heap b'=some blk∧blk'=blk.map φ)
  (hb: ∀b0 blk,b=some b0→av cs'.heap b0=some blk→lj env' κ' cs'.heap w' b0 blk)
  (hs: ∀t sv,av cs'.slots t=some sv→ ∃sv0,av cs.slots t=some sv0∧sv=sv0.map φ)
  (hk: ∀b0 g,b=some b0→κ' b0=some g→(av cs'.heap b0).isSome=true∧B≤g∧g<w'.heap.size)
  (hd:env'.length=cs'.d) (hkn:cs'.known=cs.known) (hfb:cs'.fb=cs.fb) (hnt:cs'.nt=cs.nt) (hnf:cs.nf≤cs'.nf):Rel B env' κ' cs' tm w' :=
 R.focS F hφ hH (fun b0 blk h=>hb b0 blk h.symm) hs (fun b0 g h=>hk b0 g h.symm) (fun _ _ _ e1 e2 _ _=>Option.some.inj (e1.trans e2.symm)) hd hkn hfb hnt hnf
theorem SV.map_id(sv:SV):sv.map (fun c=>c)=sv:=by
 cases sv<;>simp[SV.map]
theorem Blk.map_id(b:Blk):b.map (fun c=>c)=b:=by
 cases b<;>simp[Blk.map]
theorem Rel.grow(R:Rel B env κ cs tm w)(l:List PV)(hw: ∀g,g<w.heap.size→w'.heap[g]? =w.heap[g]?)(hsz:w.heap.size≤w'.heap.size) :
  Rel B (env++l) κ { cs with d:=cs.d+l.length } tm w':=by
 have F:Foc env (env++l) κ κ cs.heap cs.heap w w' none :=
  ⟨⟨l,rfl⟩,fun _ _=>rfl,rfl,fun _ _ _ _ h=>h,fun _ cs' _ h=>⟨cs',h⟩,fun g hg _=>hw g hg,fun b0 g h=>(by cases h),R.hinj,hsz⟩
 refine R.foc (φ:=fun c=>c) F (fun c v h=>h.foc F fun _ _=>by simp) (fun b' blk' _ h=>⟨blk',h,(Blk.map_id _).symm⟩) (fun _ _ h=>by cases h)
  (fun t sv h=>⟨sv,h,(SV.map_id _).symm⟩) (fun _ _ h=>by cases h) (by simp[R.henv]) rfl rfl rfl (Nat.le_refl _)
theorem bV.grow(R:Rel B env κ cs tm w)(l:List PV)(hw: ∀g,g<w.heap.size→w'.heap[g]? =w.heap[g]?)(hsz:w.heap.size≤w'.heap.size){sv:SV}{v:Value}
  (h:bV env κ cs.heap w sv v):bV (env++l) κ cs.heap w' sv v:=by
 have F:Foc env (env++l) κ κ cs.heap cs.heap w w' none :=
  ⟨⟨l,rfl⟩,fun _ _=>rfl,rfl,fun _ _ _ _ h=>h,fun _ cs' _ h=>⟨cs',h⟩,fun g hg _=>hw g hg,fun b0 g h=>(by cases h),R.hinj,hsz⟩
 have:=h.map (φ:=fun c=>c) (fun c v h=>h.foc F fun _ _=>by simp)
 rwa [SV.map_id] at this
theorem CS.map_slots(φ:C→C)(cs:CS)(t:Nat):av (cs.map φ).slots t=(av cs.slots t).map (SV.map φ):=wI (SV.map φ) t cs.slots
theorem CS.map_heap(φ:C→C)(cs:CS)(t:Nat):av (cs.map φ).heap t=(av cs.heap t).map (Blk.map φ):=wI (Blk.map φ) t cs.heap
theorem C.drop_names{b:Nat}{c:C}:c.drop b=.junk∨(c.drop b=c∧ ∀b'∈c.allNames,b'≠b):=by
 cases c with
 | own b'=>by_cases e:b'=b<;>simp[C.drop,C.allNames,e]
 | bor b' a=>by_cases e:b'=b<;>simp[C.drop,C.allNames,e]
 | ptr b' a=>by_cases e:b'=b<;>simp[C.drop,C.allNames,e]
 | aptr b' a o=>by_cases e:b'=b<;>simp[C.drop,C.allNames,e]
 | eptr bo l i o m =>
  cases bo with
  | none=>simp[C.drop,C.allNames]
  | some b'=>by_cases e:b'=b<;>simp[C.drop,C.allNames,e]
 | fn K caps =>
  by_cases e:caps.any (Cap.has b)=true
  ·simp[C.drop,e]
  ·right
   refine ⟨by simp[C.drop,e],fun b' hb'=>?_⟩
   simp only[C.allNames,List.mem_flatMap] at hb'
   obtain ⟨c,hc,hb'⟩:=hb'
   intro h;subst h
   apply e
   simp only[List.any_eq_true]
   refine ⟨c,hc,?_⟩
   cases c<;>simp_all[Cap.names,Cap.has]
 | _=>simp[C.drop,C.allNames]
theorem Foc.drop(R:Rel B env κ cs tm w)(b:Nat):Foc env env κ (upd κ b none) cs.heap (cs.dropB b).heap w w (some b) where
 pre:=⟨[],by simp⟩
 kap:=fun b' h=>by have e:b'≠b:=fun e=>h (congrArg some e);simp[upd,e]
 oth:=rfl
 arr:=fun b' es a h1 h2=>by
  have e:b'≠b:=fun e=>h1 (congrArg some e)
  simp only[CS.dropB]
  rw[gF,if_neg e,CS.map_heap,h2];rfl
 box:=fun b' l h1 h2=>by
  have e:b'≠b:=fun e=>h1 (congrArg some e)
  refine ⟨l.map (C.drop b),?_⟩
  simp only[CS.dropB]
  rw[gF,if_neg e,CS.map_heap,h2];rfl
 blk:=fun _ _ _=>rfl
 new:=fun b0 g h h1=>by cases h;simp[upd] at h1
 inj:=R.hinj
 siz:=Nat.le_refl _
theorem aR.drop(R:Rel B env κ cs tm w)(b:Nat){c:C}{v:Value}(h:aR env κ cs.heap w c v):aR env (upd κ b none) (cs.dropB b).heap w (c.drop b) v:=by
 rcases C.drop_names (b:=b) (c:=c) with e | ⟨e,hn⟩
 ·rw[e];trivial
 ·rw[e];exact h.foc (Foc.drop R b) fun b' hb' hh=>hn b' hb' (Option.some.inj hh)
theorem Rel.drop(R:Rel B env κ cs tm w)(b:Nat):Rel B env (upd κ b none) (cs.dropB b) tm w:=by
 refine R.foc (φ:=C.drop b) (Foc.drop R b) (fun c v h=>h.drop R b) (fun b' blk' hne h=>?_) (fun b0 blk h h1=>?_) (fun t sv h=>?_) (fun b0 g h h1=>?_) R.henv rfl rfl rfl (Nat.le_refl _)
 ·have e:b'≠b:=fun e=>hne (congrArg some e)
  simp only[CS.dropB] at h
  rw[gF,if_neg e,CS.map_heap] at h
  obtain ⟨blk,h1,rfl⟩:=Option.map_eq_some_iff.1 h
  exact ⟨blk,h1,rfl⟩
 ·cases h
  simp only[CS.dropB] at h1
  rw[gF,if_pos rfl] at h1;cases h1
 ·simp only[CS.dropB] at h
  rw[CS.map_slots] at h
  obtain ⟨sv0,h1,rfl⟩:=Option.map_eq_some_iff.1 h
  exact ⟨sv0,h1,rfl⟩
 ·cases h;simp[upd] at h1
end
end Go.Xt
