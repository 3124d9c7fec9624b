/- Steps towards the statements of this seat; the conditions stand in each theorem. -/
import Derived.Test.YtahdphncepnbeaaGreatDoorV2
namespace Go.Xt
def θ:ETy:=⟨256,48,253⟩
structure Er where
 j:Bool
 l:List Int
 deriving DecidableEq,Inhabited
def E(x:Er):PV:=.err θ x.j x.l
theorem vb{x y:Er}:(E x=E y)=(x=y):=by
 refine propext ⟨fun h=>?_,fun h=>by rw[h]⟩
 cases x;cases y;simp[E] at h;simp[h]
def iN(l:List Int):Int:=if 9∈l then 9 else l.headD 0
instance:Row Er:=⟨1,fun x=>[E x],fun _=>rfl,fun a b h=>by
 have h1:E a=E b:=by injection h
 rwa [vb] at h1⟩
instance:RowW Er 1:=⟨rfl⟩
theorem Qx{a b:Er}{k:PV→Prop}:OP (.rows 1) [E a,E b] k=k (L [a,b]):=aH (by simp[ev,cz,L,Row.row])
theorem Qy{a b c:Er}{k:PV→Prop}:OP (.rows 1) [E a,E b,E c] k=k (L [a,b,c]):=aH (by simp[ev,cz,L,Row.row])
theorem Qz{a b c d e f g:Er}{k:PV→Prop}:OP (.rows 1) [E a,E b,E c,E d,E e,E f,E g] k=k (L [a,b,c,d,e,f,g]):=aH (by simp[ev,cz,L,Row.row])
end Go.Xt
