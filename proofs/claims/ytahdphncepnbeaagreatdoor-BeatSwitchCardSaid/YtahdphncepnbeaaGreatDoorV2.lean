/- Steps towards the statements of this seat; the conditions stand in each theorem. -/
import Derived.Test.YtahdphncepnbeaaGreatDoorV1
set_option linter.unusedSimpArgs false
set_option linter.unusedVariables false
namespace Go.Xt
abbrev I(n:Int):PV:=.int .i64 n
abbrev bb(b:Bool):PV:=.bool b
noncomputable def fnT{α:Type}(F:α→Prop×List PV×List PV):List PV→Option (List PV):=nT (fun a=>(F a).1) (fun a=>(F a).2.1) (fun a=>(F a).2.2)
theorem Ef{α:Type}{F:α→Prop×List PV×List PV}(hg: ∀a b,(F a).2.1=(F b).2.1→a=b){a:α}(hp:(F a).1):fnT F (F a).2.1=some (F a).2.2:=kO (pre:=fun a=>(F a).1) (g:=fun a=>(F a).2.1) (h:=fun a=>(F a).2.2) hg hp
class Row (α:Type) where
 w:Nat
 row:α→List PV
 len: ∀a,(row a).length=w
 inj: ∀a b,row a=row b→a=b
def L{α:Type}[Row α](xs:List α):PV:=.list (xs.map Row.row)
theorem D2{α β:Type}{f:α→β}(hf: ∀a b,f a=f b→a=b): ∀ {l m:List α},l.map f=m.map f→l=m
 | [],[],_=>rfl
 | a::l,b::m,h=>by
  simp only[List.map_cons,List.cons.injEq] at h
  rw[hf a b h.1,D2 hf h.2]
 | [],_::_,h=>by simp at h
 | _::_,[],h=>by simp at h
theorem dH{α:Type}[Row α]{xs ys:List α}:(L xs=L ys)=(xs=ys):=by
 refine propext ⟨fun h=>?_,fun h=>by rw[h]⟩
 simp only[L,PV.list.injEq] at h
 exact D2 Row.inj h
instance:Row Int:=⟨1,fun n=>[I n],fun _=>rfl,by intro a b h;simpa using h⟩
instance:Row Bool:=⟨1,fun n=>[bb n],fun _=>rfl,by intro a b h;simpa using h⟩
instance {α:Type} [Row α]:Row (List α):=⟨1,fun xs=>[L xs],fun _=>rfl,by intro a b h;simpa[dH] using h⟩
theorem Ha{n:Int}:Row.row n=[I n]:=rfl
theorem Hb{n:Bool}:Row.row n=[bb n]:=rfl
theorem Hc{α:Type}[Row α]{n:List α}:Row.row n=[L n]:=rfl
class RowW (α:Type) [Row α] (w:Nat):Prop where
 h:Row.w α=w
instance:RowW Int 1:=⟨rfl⟩
instance:RowW Bool 1:=⟨rfl⟩
instance {α:Type} [Row α]:RowW (List α) 1:=⟨rfl⟩
theorem bK{α:Type}[Row α]{xs:List α}:lV (L xs)=(xs.length≤2 ^ 63-1):=by simp[lV,L]
theorem fG{n:Int}:lV (I n)=(-9223372036854775808≤n∧n≤9223372036854775807):=by simp[lV,inr,IntKind.min,IntKind.max,IntKind.bits,IntKind.signed]
def Eg(p:PV):Prop:= ∃xs:List (List PV),p=.list xs∧ ∀r∈xs,∀q∈r,q.scalar=true
def gL(own:List Nat):Nat→List PV→Prop
 | _,[]=>True
 | j,p::r=>(if j∈own then Eg p else p.scalar=true)∧gL own (j+1) r
theorem vp{own:List Nat}: ∀ {rs:List PV} {i:Nat},gL own i rs→ ∀j p,rs[j]? =some p→if i+j∈own then Eg p else p.scalar=true
 | [],_,_,j,p,h=>by simp at h
 | x::r,i,hf,0,p,h=>by simp at h;subst h;exact hf.1
 | x::r,i,hf,j+1,p,h=>by
  have:=vp hf.2 j p (by simpa using h)
  rwa [show i+1+j=i+(j+1) by omega] at this
theorem bj{own:List Nat}{rs:List PV}(h:gL own 0 rs):px own rs:=fun j p hp=>by
 have:=vp h j p hp
 rwa [Nat.zero_add] at this
class FlatRow (α:Type) [Row α]:Prop where
 flat: ∀a:α,∀q∈Row.row a,q.scalar=true
instance:FlatRow Int:=⟨fun a q hq=>by simp[Row.row] at hq;subst hq;rfl⟩
instance:FlatRow Bool:=⟨fun a q hq=>by simp[Row.row] at hq;subst hq;rfl⟩
theorem fH{α:Type}[Row α][FlatRow α]{xs:List α}:Eg (L xs):=⟨_,rfl,fun r hr q hq=>by
 obtain ⟨a,_,rfl⟩:=List.mem_map.1 hr
 exact FlatRow.flat a q hq⟩
section
variable {m:Nat}{B:(List PV→Prop)→Prop}{k:pH m}
theorem SUB.val(vs:List PV)(h:vs.length=m)(h1:B (· =vs))(h2:app m k vs):SUB m B k:=.inl ⟨vs,h,h1,h2⟩
theorem SUB.v1{k:PV→Prop}(p:PV)(h1:B (· =[p]))(h2:k p):SUB 1 B k:=.inl ⟨[p],rfl,h1,h2⟩
theorem SUB.v2{k:PV→PV→Prop}(p q:PV)(h1:B (· =[p,q]))(h2:k p q):SUB 2 B k:=.inl ⟨[p,q],rfl,h1,h2⟩
theorem SUB.v3{k:PV→PV→PV→Prop}(p q r:PV)(h1:B (· =[p,q,r]))(h2:k p q r):SUB 3 B k:=.inl ⟨[p,q,r],rfl,h1,h2⟩
theorem SUB.path(h:B (fun rs=>rs.length=m∧app m k rs)):SUB m B k:=.inr h
theorem aO.rule{m:Nat}{init:List PV}{B:(List PV→Prop)→pH m}{α:Type}(enc:α→List PV)(J:α→Prop)(μ:α→Nat)(a0:α)(h0:init=enc a0)(h1:J a0)
  (hl: ∀a,(enc a).length=m) (h: ∀a,J a→app m (B fun vs=> ∃a',vs=enc a'∧J a'∧μ a'<μ a) (enc a)):aO m init B :=
 ⟨α,enc,J,μ,a0,h0,h1,fun a ha=>⟨hl a,h a ha⟩⟩
end
theorem sB{c:Bool}{a b:Prop}:ITE (.bool c) a b=((c=true→a)∧(c=false→b)):=by
 unfold ITE;refine propext ⟨?_,fun h=>⟨c,rfl,h⟩⟩
 rintro ⟨x,h1,h2⟩;cases h1;exact h2
theorem fI{a b:Prop}:ITE (.bool true) a b=a:=by rw[sB];simp
theorem aK{a b:Prop}:ITE (.bool false) a b=b:=by rw[sB];simp
theorem HI{k:PV→Prop}{a:PV}:app 1 k [a]=k a:=rfl
theorem HJ{k:PV→PV→Prop}{a b:PV}:app 2 k [a,b]=k a b:=rfl
theorem HK{k:PV→PV→PV→Prop}{a b c:PV}:app 3 k [a,b,c]=k a b c:=rfl
theorem HL{k:PV→PV→PV→PV→Prop}{a b c d:PV}:app 4 k [a,b,c,d]=k a b c d:=rfl
theorem Gf{a:PV}{l:List PV}:look (a::l) 0=a:=rfl
theorem Gg{a:PV}{l:List PV}{n:Nat}:look (a::l) (n+1)=look l n:=rfl
theorem kP{ρ:Fns}{K:Nat}{as rs:List PV}{m:Nat}{k:pH m}(h:ρ K as=some rs)(hm:rs.length=m):CALL ρ K as m k=app m k rs:=by
 unfold CALL;refine propext ⟨?_,fun h2=>⟨rs,h,hm,h2⟩⟩
 rintro ⟨rs',h1,h2,h3⟩;rw[h] at h1;cases h1;exact h3
theorem BG{ρ:Fns}{K m:Nat}{k:pH m}{α:Type}{F:α→Prop×List PV×List PV}(e:ρ K=fnT F)(hg: ∀a b,(F a).2.1=(F b).2.1→a=b)(a:α)(hp:(F a).1)(hm:(F a).2.2.length=m):CALL ρ K (F a).2.1 m k=app m k (F a).2.2 :=
 kP (by rw[e];exact Ef hg hp) hm
theorem aq{o:POp}{as:List PV}{v:PV}{k:PV→Prop}(h:ev o as=some v):OP o as k=k v:=by
 unfold OP;refine propext ⟨?_,fun h2=>⟨v,h,h2⟩⟩
 rintro ⟨v',h1,h2⟩;rw[h] at h1;cases h1;exact h2
section
variable {α:Type}[Row α]{xs ys:List α}{k:PV→Prop}{n:Int}{w:Nat}{κ:IntKind}
theorem Eh:OP .len [L xs] k=k (I xs.length):=aq (by simp[ev,L])
theorem Fk:OP .len [.list []] k=k (I 0):=aq (by simp[ev])
theorem mN[hw:RowW α w]:kx w (xs.map Row.row)=true:=by cases xs<;>simp[kx,Row.len,hw.h]
theorem fJ[hw:RowW α w](h0:0≤n)(h1:n<xs.length):OP (.idx w) [L xs,.int κ n] k=k (.int κ n) :=
 aq (by simp only[ev,L];rw[if_pos ⟨h0,by simpa using h1,mN⟩])
theorem aB{x:α}{i:Nat}{j:Nat}(h:xs[i]? =some x):(L xs).cellAt (.int κ i) j=look (Row.row x) j:=by
 simp[L,PV.cellAt,List.getD_eq_getElem?_getD,h]
theorem Hd{x:α}{j:Nat}{xs:List α}:(L (x::xs)).cellAt (.int κ 0) j=look (Row.row x) j:=aB (i:=0) rfl
theorem Gh{xs:List Int}{n:Int}(h0:0≤n)(h:n<xs.length):(L xs).cellAt (.int κ n) 0=I (xs.getD n.toNat 0):=by
 obtain ⟨m,rfl⟩:=Int.eq_ofNat_of_zero_le h0
 have h2:m<xs.length:=by omega
 rw[aB (x:=xs[m]) (by simp[h2])];simp[Row.row,look,h2]
theorem Fl{w:Nat}[hw:RowW α w](h0:0≤n)(h1:n≤xs.length):OP (.slice w true false) [L xs,I n] k=k (L (xs.drop n.toNat)) :=
 aq (by simp only[ev,L];rw[if_pos ⟨h0,by simpa using h1,mN⟩];simp)
theorem Fm{w:Nat}[hw:RowW α w](h0:0≤n)(h1:n≤xs.length):OP (.slice w false true) [L xs,I n] k=k (L (xs.take n.toNat)) :=
 aq (by simp only[ev,L];rw[if_pos ⟨h0,by simpa using h1,mN⟩];simp)
theorem Gi{w:Nat}{l:Int}[hw:RowW α w](h0:0≤l)(h2:l≤n)(h1:n≤xs.length):OP (.slice w true true) [L xs,I l,I n] k=k (L ((xs.take n.toNat).drop l.toNat)) :=
 aq (by simp only[ev,L];rw[if_pos ⟨h0,h2,by simpa using h1,mN⟩];simp)
theorem Gj{w:Nat}:OP (.slice w false false) [L xs] k=k (L xs):=aq rfl
theorem Gk:OP .isl [L xs] k=k (bb true):=aq rfl
theorem Fo:OP .isl [.list []] k=k (bb true):=aq rfl
theorem Gl{w b:Nat}[hw:RowW α w](h:(xs.length+ys.length)*b≤140737488355328):OP (.app w b) [L xs,L ys] k=k (L (xs++ys)) :=
 aq (by simp only[ev,L];rw[if_pos ⟨by simpa[nU] using h,mN,mN⟩];simp)
theorem Fp{w b:Nat}[hw:RowW α w](h:ys.length*b≤140737488355328):OP (.app w b) [.list [],L ys] k=k (L ys) :=
 aq (by simp only[ev,L];rw[if_pos ⟨by simpa[nU] using h,rfl,mN⟩];simp)
theorem Fq{w b:Nat}[hw:RowW α w](h:xs.length*b≤140737488355328):OP (.app w b) [L xs,.list []] k=k (L xs) :=
 aq (by simp only[ev,L];rw[if_pos ⟨by simpa[nU] using h,mN,rfl⟩];simp)
theorem Ei{w b:Nat}:OP (.app w b) [.list [],.list []] k=k (.list []) :=
 aq (by simp[ev,nU,kx])
end
theorem mO{α:Type}[Row α]{xs:List α}{k:PV→Prop}:sA (L xs) false k=((xs=[]→k (bb true))∧k (bb false)):=by
 unfold sA L
 refine propext ⟨?_,?_⟩
 ·rintro ⟨ys,h1,h2⟩;cases h1
  exact ⟨fun h=>h2 true fun _=>by rw[h];rfl,h2 false fun h=>by cases h⟩
 ·rintro ⟨h1,h2⟩
  refine ⟨_,rfl,fun b hb=>?_⟩
  cases b with
  | true=>exact h1 (by simpa using hb rfl)
  | false=>exact h2
section
variable {k:PV→Prop}
theorem Fs{a:Int}:OP (.rows 1) [I a] k=k (L [a]):=aq (by simp[ev,bh,L,Row.row])
theorem Ej{a b:Int}:OP (.rows 1) [I a,I b] k=k (L [a,b]):=aq (by simp[ev,bh,L,Row.row])
theorem Ek{a b c d:Int}:OP (.rows 1) [I a,I b,I c,I d] k=k (L [a,b,c,d]):=aq (by simp[ev,bh,L,Row.row])
theorem zh{a b c d e f g h:Int}:OP (.rows 1) [I a,I b,I c,I d,I e,I f,I g,I h] k=k (L [a,b,c,d,e,f,g,h]):=aq (by simp[ev,bh,L,Row.row])
theorem Ft{α:Type}[Row α]{a:List α}:OP (.rows 1) [L a] k=k (L [a]):=aq (by simp[ev,bh,L,Row.row])
theorem El{α:Type}[Row α]{a b:List α}:OP (.rows 1) [L a,L b] k=k (L [a,b]):=aq (by simp[ev,bh,L,Row.row])
end
section
variable {κ:IntKind}{a b:Int}{k:PV→Prop}
theorem Gm:OP (.bin .lss) [.int κ a,.int κ b] k=k (.bool (decide (a<b))):=aq (by simp[ev,iF])
theorem Gn:OP (.bin .leq) [.int κ a,.int κ b] k=k (.bool (decide (a≤b))):=aq (by simp[ev,iF])
theorem Gp:OP (.bin .gtr) [.int κ a,.int κ b] k=k (.bool (decide (b<a))):=aq (by simp[ev,iF])
theorem Gq:OP (.bin .geq) [.int κ a,.int κ b] k=k (.bool (decide (b≤a))):=aq (by simp[ev,iF])
theorem cr:OP (.bin .eql) [.int κ a,.int κ b] k=k (.bool (decide (a=b))):=aq (by simp[ev,iF];rfl)
theorem Gr:OP (.bin .neq) [.int κ a,.int κ b] k=k (.bool (!decide (a=b))):=aq (by
 simp only[ev,iF,if_true,Option.some.injEq,PV.bool.injEq]
 by_cases h:a=b<;>simp[h])
theorem Gs{c:Bool}:OP (.un .not) [.bool c] k=k (.bool (!c)):=aq (by simp[ev])
theorem Gt{c d:Bool}:OP (.beq false) [.bool c,.bool d] k=k (.bool (c == d)):=aq (by simp[ev])
theorem Gu{c d:Bool}:OP (.beq true) [.bool c,.bool d] k=k (.bool (!(c == d))):=aq (by simp[ev])
theorem D3{n:Int}(h:inr κ n):κ.wrap n=n:=by
 obtain ⟨h1,h2⟩:=h
 cases κ <;>simp[IntKind.wrap,IntKind.min,IntKind.max,IntKind.bits,IntKind.signed] at * <;>omega
theorem wr{n:Int}(h0: -9223372036854775808≤n)(h1:n≤9223372036854775807):IntKind.i64.wrap n=n:=D3 (κ:=.i64) ⟨h0,h1⟩
theorem Gv(h0: -9223372036854775808≤a+b)(h1:a+b≤9223372036854775807):OP (.bin .add) [I a,I b] k=k (I (a+b)):=aq (by simp[ev,iF,wr h0 h1])
theorem Gw(h0: -9223372036854775808≤a-b)(h1:a-b≤9223372036854775807):OP (.bin .sub) [I a,I b] k=k (I (a-b)):=aq (by simp[ev,iF,wr h0 h1])
theorem D4:OP (.bin .add) [I a,I b] k=k (I (IntKind.i64.wrap (a+b))):=aq (by simp[ev,iF])
def u64(n:Int):Int:=n % 18446744073709551616
theorem Gx(n:Int):0≤u64 n∧u64 n<18446744073709551616:=by unfold u64;omega
theorem He:OP (.conv .u64) [I a] k=k (.int .u64 (u64 a)):=aq (by simp[ev,IntKind.wrap,IntKind.bits,IntKind.signed,u64])
theorem Fu(h:0<b):OP (.bin .rem) [.int .u64 (u64 a),.int .u64 b] k=k (.int .u64 (u64 a % b)):=aq (by
 have h1: ¬b=0:=by omega
 have:=Gx a
 simp[ev,iF,h1,Int.tmod_eq_emod_of_nonneg this.1])
theorem Fv(h0:0≤a)(h:0<b):OP (.bin .rem) [I a,I b] k=k (I (a % b)):=aq (by
 have h1: ¬b=0:=by omega
 simp[ev,iF,h1,Int.tmod_eq_emod_of_nonneg h0])
theorem Hf(h0: -9223372036854775808≤a)(h1:a≤9223372036854775807):OP (.conv .i64) [.int κ a] k=k (I a):=aq (by
 simp only[ev,Option.some.injEq,PV.int.injEq,true_and];exact D3 (κ:=.i64) ⟨h0,h1⟩)
theorem bt{α:Type}[Row α]{xs:List α}{x:α}{i:Nat}{v:PV}{y:α}{j:Nat}(hi:xs[i]? =some x)(hy:(Row.row x).set j v=Row.row y) :
  OP (.set j) [L xs,.int κ i,v] k=k (L (xs.set i y)):=aq (by
 obtain ⟨h1,h2⟩:=List.getElem?_eq_some_iff.1 hi
 simp only[ev,L]
 rw[if_pos ⟨by omega,by simpa using h1⟩]
 simp[List.getD_eq_getElem?_getD,hi,hy,List.map_set])
theorem Hg:OP .mn [I a,I b] k=k (I (min a b)):=aq (by
 simp only[ev,if_true,Option.some.injEq,PV.int.injEq,true_and];split<;>omega)
theorem Hh:OP .mx [I a,I b] k=k (I (max a b)):=aq (by
 simp only[ev,if_true,Option.some.injEq,PV.int.injEq,true_and];split<;>omega)
theorem Gy{c:Bool}{x y:PV}:OP .sel [.bool c,x,y] k=k (if c then x else y):=aq (by cases c<;>rfl)
end
section
variable {c:Bool}{p:Prop}[Decidable p]
theorem Hi{R:List PV→Prop}{a b:List PV}:ITE (.bool c) (R a) (R b)=R (if c=true then a else b):=by
 cases c<;>simp[fI,aK]
theorem Gz{x a b:List PV}:ITE (.bool c) (a=x) (b=x)=((if c=true then a else b)=x):=by
 cases c<;>simp[fI,aK]
theorem Hj{a b:PV}{l m:List PV}:(if p then a::l else b::m)=(if p then a else b)::(if p then l else m):=by split<;>rfl
theorem GA{a b:Bool}:(if p then PV.bool a else PV.bool b)=PV.bool (if p then a else b):=by split<;>rfl
theorem Hk{κ:IntKind}{a b:Int}:(if p then PV.int κ a else PV.int κ b)=PV.int κ (if p then a else b):=by split<;>rfl
theorem Hl{α:Type}[Row α]{a b:List α}:(if p then L a else L b)=L (if p then a else b):=by split<;>rfl
theorem GB{α:Type}[Row α]{a:List α}:(if p then L a else .list [])=L (if p then a else []):=by split<;>rfl
theorem GC{α:Type}[Row α]{a:List α}:(if p then .list [] else L a)=L (if p then [] else a):=by split<;>rfl
theorem GD{v:PV}{k:PV→Prop}:SUB 1 (fun R=>R [v]) k=k v:=by
 unfold SUB;refine propext ⟨?_,fun h=>.inr ⟨rfl,h⟩⟩
 rintro (⟨rs,h1,rfl,h3⟩ | ⟨_,h⟩)
 ·exact h3
 ·exact h
theorem GE{v w:PV}{k:PV→PV→Prop}:SUB 2 (fun R=>R [v,w]) k=k v w:=by
 unfold SUB;refine propext ⟨?_,fun h=>.inr ⟨rfl,h⟩⟩
 rintro (⟨rs,h1,rfl,h3⟩ | ⟨_,h⟩)
 ·exact h3
 ·exact h
theorem GF{v w x:PV}{k:PV→PV→PV→Prop}:SUB 3 (fun R=>R [v,w,x]) k=k v w x:=by
 unfold SUB;refine propext ⟨?_,fun h=>.inr ⟨rfl,h⟩⟩
 rintro (⟨rs,h1,rfl,h3⟩ | ⟨_,h⟩)
 ·exact h3
 ·exact h
end
section
variable {k:PV→Prop}{a1 a2 a3 a4 a5 a6 b1 b2 b3 b4 b5 b6:Int}{κ:IntKind}
theorem Fw{n:Bool}:OP (.eqs n [true,true]) [I a1,I a2,I b1,I b2] k=k (bb (if n then !(decide (a1=b1)&&decide (a2=b2)) else (decide (a1=b1)&&decide (a2=b2)))):=aq (by
 simp[ev,mc,PV.eqv];rfl)
theorem Fx{n:Bool}:OP (.eqs n [true,true,true]) [I a1,I a2,I a3,I b1,I b2,I b3] k=k (bb (if n then !(decide (a1=b1)&&(decide (a2=b2)&&decide (a3=b3))) else (decide (a1=b1)&&(decide (a2=b2)&&decide (a3=b3))))):=aq (by
 simp[ev,mc,PV.eqv];rfl)
theorem Fy{n:Bool}:OP (.eqs n [true,true,true,true,true]) [I a1,I a2,I a3,I a4,I a5,I b1,I b2,I b3,I b4,I b5] k=k (bb (if n then !(decide (a1=b1)&&(decide (a2=b2)&&(decide (a3=b3)&&(decide (a4=b4)&&decide (a5=b5))))) else (decide (a1=b1)&&(decide (a2=b2)&&(decide (a3=b3)&&(decide (a4=b4)&&decide (a5=b5))))))):=aq (by
 simp[ev,mc,PV.eqv];rfl)
theorem Fz{n:Bool}:OP (.eqs n [true,true,true,true,true,true]) [I a1,I a2,I a3,I a4,I a5,I a6,I b1,I b2,I b3,I b4,I b5,I b6] k=k (bb (if n then !(decide (a1=b1)&&(decide (a2=b2)&&(decide (a3=b3)&&(decide (a4=b4)&&(decide (a5=b5)&&decide (a6=b6)))))) else (decide (a1=b1)&&(decide (a2=b2)&&(decide (a3=b3)&&(decide (a4=b4)&&(decide (a5=b5)&&decide (a6=b6)))))))):=aq (by
 simp[ev,mc,PV.eqv];rfl)
end
theorem ws{α:Type}[Row α]{z:α}{zs:List Lit}{b:Nat}{n:Int}{k:PV→Prop}(hz:zs.map Lit.pv=Row.row z)(h0:0≤n)(hb:n.toNat*b≤140737488355328):OP (.repl b zs) [I n] k=k (L (List.replicate n.toNat z)):=aq (by
 simp only[ev];rw[if_pos ⟨h0,by simpa[nU] using hb⟩];simp[L,hz])
theorem aT{α:Type}{xs:List α}{i:Nat}{x:α}(h:xs[i]? =some x):xs.drop i=x::xs.drop (i+1):=by
 obtain ⟨h1,h2⟩:=List.getElem?_eq_some_iff.1 h
 rw[←h2,List.drop_eq_getElem_cons h1]
theorem aL{α:Type}{xs:List α}{i:Nat}(h:(i:Int)<xs.length): ∃x,xs[i]? =some x :=
 ⟨xs[i]'(by omega),by simp⟩
theorem aQ{α:Type}{xs:List α}{i:Nat}(h: ¬(i:Int)<xs.length):xs.drop i=[]:=List.drop_eq_nil_of_le (by omega)
@[reducible] def zi:Nat→Type
 | 0=>(List PV→Prop)→Prop
 | n+1=>PV→zi n
def FA:(n:Nat)→(List PV→(List PV→Prop)→Prop)→zi n
 | 0,f=>fun Q=>f [] Q
 | n+1,f=>fun v=>FA n fun l=>f (v::l)
def zj:(n:Nat)→zi n→List PV→(List PV→Prop)→Prop
 | 0,f,_=>f
 | n+1,f,p::l=>zj n (f p) l
 | _+1,_,[]=>fun _=>False
theorem zk: ∀(n:Nat) (f:List PV→(List PV→Prop)→Prop) (l:List PV) (Q:List PV→Prop),l.length=n→zj n (FA n f) l Q=f l Q
 | 0,f,[],Q,_=>rfl
 | n+1,f,p::l,Q,h=>zk n (fun l=>f (p::l)) l Q (by simpa using h)
 | 0,_,_::_,_,h=>by simp at h
 | _+1,_,[],_,h=>by simp at h
def r9(P:Program)(ρ:Fns):List Sig→Prop
 | []=>True
 | s::r=>bC P s (ρ s.K)∧r9 P ρ r
theorem r9.mem{P:Program}{ρ:Fns}: ∀ {l:List Sig},r9 P ρ l→ ∀s∈l,bC P s (ρ s.K)
 | _::_,h,s,hs=>by
  rcases List.mem_cons.1 hs with rfl | h2
  ·exact h.1
  ·exact r9.mem h.2 s h2
theorem ac{P:Program}{ρ:Fns}{s:Sig}{r:List Sig}(h:bC P s (ρ s.K))(t:r9 P ρ r):r9 P ρ (s::r):=⟨h,t⟩
theorem an{P:Program}{ρ:Fns}:r9 P ρ []:=trivial
theorem aF{P:Program}{tab:List Sig}{ρ:Fns}{K:Nat}{o:List Nat}{fl:Bool}{α:Type} (ai:(P.funcs.toList.all fun fn=> !(fn.name == "runtime.NumGoroutine"))=true) (aE:P.follows .mixedOrders=true)
  (F:α→Prop×List PV×List PV) (n:Nat) (S:Fns→zi n) (hs:ag) (hX:r9 P ρ tab)
  (hscal:(∀a,(F a).2.2.all PV.scalar=true)∨((P.funcs[K]?).map fun fn=>fn.resultTypes.toList.all (cF P))=some false)
  (hflat:fl=false∨ ∀a,px o (F a).2.2) (he:(s0 P tab hs 20 ⟨K,o,none,fl⟩).map (fun t ρ=>FA n fun l Q=>W ρ t l [] Q)=some S)
  (hl: ∀a,(F a).2.1.length=n) (hW: ∀a,(F a).1→ay (F a).2.1→zj n (S ρ) (F a).2.1 fun x=>x=(F a).2.2):bC P ⟨K,o,none,fl⟩ (fnT F):=by
 refine PureOK.of_e (ρ:=ρ) (Ctx.of ai aE hX.mem) ?_ hflat he ?_
 ·exact hscal.imp (fun h a p hp=>List.all_eq_true.1 (h a) p hp) id
 ·intro t ht a hp hg
  have:=hW a hp hg
  rw[←ht] at this
  dsimp only at this
  rwa [zk _ _ _ _ (hl a)] at this
def WW(ρ:Fns)(n:Nat)(S:Fns→zi n){α:Type}(F:α→Prop×List PV×List PV)(a:α):Prop:=zj n (S ρ) (F a).2.1 fun x=>x=(F a).2.2
class Enc (α:Type) where
 w:Nat
 enc:α→List PV
 len: ∀a,(enc a).length=w
 inj: ∀a b,enc a=enc b→a=b
instance {α:Type} [Row α]:Enc α:=⟨Row.w α,Row.row,Row.len,Row.inj⟩
instance {α β:Type} [Enc α] [Enc β]:Enc (α×β):=⟨Enc.w α+Enc.w β,fun p=>Enc.enc p.1++Enc.enc p.2,fun p=>by simp[Enc.len],fun p q h=>by
 have:=List.append_inj h (by rw[Enc.len,Enc.len])
 exact Prod.ext (Enc.inj _ _ this.1) (Enc.inj _ _ this.2)⟩
def mkF{α:Type}[Enc α](G:α→Prop×List PV)(a:α):Prop×List PV×List PV:=((G a).1,Enc.enc a,(G a).2)
theorem HM{ρ:Fns}{n:Nat}{S:Fns→zi n}{α:Type}{F:α→Prop×List PV×List PV}{a:α}:WW ρ n S F a=zj n (S ρ) (F a).2.1 fun x=>x=(F a).2.2:=rfl
theorem mk0{α:Type}[Enc α]{G:α→Prop×List PV}{a:α}:(mkF G a).1=(G a).1:=rfl
theorem mk1{α:Type}[Enc α]{G:α→Prop×List PV}{a:α}:(mkF G a).2.1=Enc.enc a:=rfl
theorem mk2{α:Type}[Enc α]{G:α→Prop×List PV}{a:α}:(mkF G a).2.2=(G a).2:=rfl
theorem Hm{α β:Type}[Enc α][Enc β]{a:α}{b:β}:Enc.enc (a,b)=Enc.enc a++Enc.enc b:=rfl
theorem Hn{α:Type}[Row α]{a:α}:Enc.enc a=Row.row a:=rfl
theorem GG{n:Nat}{f:zi (n+1)}{p:PV}{l:List PV}:zj (n+1) f (p::l)=zj n (f p) l:=rfl
theorem GH{f:zi 0}{l:List PV}:zj 0 f l=f:=rfl
theorem ak{n:Nat}{f:pH (n+1)}{p:PV}{l:List PV}:app (n+1) f (p::l)=app n (f p) l:=rfl
theorem al{f:pH 0}{l:List PV}:app 0 f l=f:=rfl
abbrev bA:POp:=.bin .add
abbrev bS:POp:=.bin .sub
abbrev bL:POp:=.bin .lss
abbrev bQ:POp:=.bin .leq
abbrev bG:POp:=.bin .gtr
abbrev bH:POp:=.bin .geq
abbrev bE:POp:=.bin .eql
abbrev bN:POp:=.bin .neq
abbrev bU:POp:=.un .not
theorem BH{ρ:Fns}{K m:Nat}{k:pH m}{α:Type}[Enc α]{F:α→Prop×List PV×List PV}(e:ρ K=fnT F)(hg: ∀a,(F a).2.1=Enc.enc a)(a:α)(hp:(F a).1)(hm:(F a).2.2.length=m):CALL ρ K (F a).2.1 m k=app m k (F a).2.2 :=
 BG e (fun a b h=>Enc.inj a b (by rw[←hg,←hg];exact h)) a hp hm
theorem Em{α:Type}[Enc α]{F:α→Prop×List PV×List PV}(hg: ∀a,(F a).2.1=Enc.enc a){a:α}(hp:(F a).1):fnT F (F a).2.1=some (F a).2.2 :=
 Ef (fun a b h=>Enc.inj a b (by rw[←hg,←hg];exact h)) hp
end Go.Xt
