/- What the functions say, in plain Lean. -/
import Derived.Test.YtfcihgjageeglaaV2
set_option linter.unusedSimpArgs false
set_option linter.unusedVariables false
namespace Go.Xt
def TT : List Int := [1462484242049070477, 1775212608919665246, 3535639072113518480, 3725500155902745375]
def NN : List Int := [2342812313538366385, 1863050908023769503, 81111313352671826, 2434324899588211290, 2454816673080883147, 1342378062264523301, 820659310660760249, 2006264061484817761]
def tt (t : Int) : Int := TT.getD t.toNat 0
def nn (n : Int) : Int := NN.getD n.toNat 0
def isT (v : Int) : Bool := decide (0 ≤ v) && decide (v < 4)
def isN (v : Int) : Bool := decide (0 ≤ v) && decide (v < 8)
def far (k n : Int) : Int := if n - k < 0 then n - k + 4611686018427387904 else n - k
def gap (t n : Int) : Int := far (tt t) (nn n)
def near (t a b : Int) : Bool := isT t && isN a && isN b && decide (gap t a < gap t b)
def rises (t : Int) : Int → List Int → Bool
  | _, [] => true
  | n, x :: xs => near t x n && rises t x xs
def chk (t n : Int) (xs : List Int) (c : Int) : Int :=
  if (isT t && isN n && decide (1 ≤ c) && decide (c ≤ 8) && xs.all isN) = true then
    if xs.length > c then 12 else if rises t n xs = true then 0 else 1
  else 1
def addP (t n : Int) (xs : List Int) : List Int × Int :=
  if chk t n xs 8 = 0 then (if xs.length ≥ 8 then ([], 12) else (n :: xs, 0)) else ([], chk t n xs 8)
def chkR (t n : Int) (xs : List Int) (c : Int) : Int :=
  if xs.all isN = true then if xs.length > c then 12 else if rises t n xs = true then 0 else 1 else 1
def par (rows : List (List Int)) (i : Int) : Int := match rows[i.toNat]? with | some (x :: _) => x | _ => -1
def iterP (rows : List (List Int)) : Nat → Int → Int
  | 0, at_ => at_
  | k + 1, at_ => iterP rows k (if 0 ≤ at_ then par rows at_ else at_)
def whole (rows : List (List Int)) : Bool :=
  decide (rows.length ≤ 8) && rows.all (·.all isN) && (List.range rows.length).all fun n => decide (iterP rows 9 n < 0)

/-! ### keys, routes -/
def isK (k : Int) : Bool := decide (0 ≤ k) && decide (k < 4611686018427387904)
def betw (a k b : Int) : Bool := isK a && isK k && isK b && (decide (a = b) || (decide (0 < far a k) && decide (far a k ≤ far a b)))
def ownGo (t : Int) : Int → List Int → Int
  | b, [] => b
  | b, x :: r => ownGo t (if near t x b = true then x else b) r
def owner (t : Int) (l : List Int) : Int × Int :=
  if isT t = true then if l.all isN = true then match l with | [] => (0, 7) | x :: _ => (ownGo t x l, 0) else (0, 1) else (0, 1)
def ownR (t : Int) : Int → List Int → Int
  | b, [] => b
  | b, x :: r => ownR t (if b < 0 ∨ gap t x < gap t b then x else b) r
def ownerR (t : Int) (l : List Int) : Int := ownR t (-1) l
def okFrom : Int → List Int → Bool
  | _, [] => true
  | p, x :: r => isN x && decide (p < x) && okFrom x r
def chkL (live : List Int) (self : Int) : Int := if (okFrom (-1) live && live.contains self) = true then 0 else 1
def firstGo (k : Int) : Int → Int → List Int → Int
  | b, _, [] => b
  | b, d, n :: r => if b < 0 ∨ far k (nn n) < d then firstGo k n (far k (nn n)) r else firstGo k b d r
def firstN (live : List Int) (k : Int) : Int := firstGo k (-1) 0 live
def aheadGo (self : Int) : Int → Int → List Int → Int
  | b, _, [] => b
  | b, d, n :: r => if n ≠ self ∧ (b < 0 ∨ far (nn n) (nn self) < d) then aheadGo self n (far (nn n) (nn self)) r else aheadGo self b d r
def aheadN (live : List Int) (self : Int) : Int := aheadGo self (-1) 0 live
def backN (self : Int) (i : Nat) : Int := far (2 ^ i) (nn self)
def compGo : Int → List Int → List Int
  | _, [] => []
  | p, y :: r => if y = p then compGo p r else y :: compGo y r
def compacted : List Int → List Int
  | [] => []
  | x :: r => x :: compGo x r
def sorted (l : List Int) : List Int := l.mergeSort fun x y => decide (x ≤ y)
def nodesL : List Int := [0, 1, 2, 3, 4, 5, 6, 7]
def fingL (live : List Int) (self : Int) (k : Nat) : List Int := ((List.range k).map fun i => firstN live (backN self i)).filter fun n => decide (n ≠ self)
def fingers (live : List Int) (self : Int) : List Int := nodesL.filter fun n => (fingL live self 62).contains n
def nextN (t : Int) (live : List Int) (self : Int) : Int :=
  if ownGo t self (fingers live self ++ [aheadN live self]) = self then -1 else ownGo t self (fingers live self ++ [aheadN live self])
def askedN (t : Int) (live : List Int) (self : Int) : Int := if chkL live self = 0 then (if isT t = true then 0 else 1) else chkL live self
def wayN (t : Int) (live : List Int) : Nat → Int → List Int
  | 0, _ => []
  | k + 1, n => if nextN t live n < 0 then [] else nextN t live n :: wayN t live k (nextN t live n)
def way (t : Int) (live : List Int) (self : Int) : List Int := wayN t live 8 self
def someN (bits self : Int) : List Int × Int :=
  let b := 1 + u64 bits % 255
  let l := nodesL.filter fun i => decide ((b / 2 ^ i.toNat) % 2 = 1)
  (l, l.getD ((u64 self) % l.length).toNat 0)
end Go.Xt
