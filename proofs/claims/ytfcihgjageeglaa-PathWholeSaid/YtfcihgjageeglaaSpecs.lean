/- What the functions say, in plain Lean. -/
import Derived.Test.YtfcihgjageeglaaV2
set_option linter.unusedSimpArgs false
set_option linter.unusedVariables false
namespace Go.Xt
def TT : List Int := [1462484242049070477, 1775212608919665246, 3535639072113518480, 3725500155902745375]
def NN : List Int := [2342812313538366385, 1863050908023769503, 81111313352671826, 2434324899588211290, 2454816673080883147, 1342378062264523301, 820659310660760249, 2006264061484817761]
def tt (t : Int) : Int := TT.getD t.toNat 0
def nn (n : Int) : Int := NN.getD n.toNat 0
def isT (v : Int) : Bool := decide (0 ≤ v) && decide (v < 4)
def isN (v : Int) : Bool := decide (0 ≤ v) && decide (v < 8)
def far (k n : Int) : Int := if n - k < 0 then n - k + 4611686018427387904 else n - k
def gap (t n : Int) : Int := far (tt t) (nn n)
def near (t a b : Int) : Bool := isT t && isN a && isN b && decide (gap t a < gap t b)
def rises (t : Int) : Int → List Int → Bool
  | _, [] => true
  | n, x :: xs => near t x n && rises t x xs
def chk (t n : Int) (xs : List Int) (c : Int) : Int :=
  if (isT t && isN n && decide (1 ≤ c) && decide (c ≤ 8) && xs.all isN) = true then
    if xs.length > c then 12 else if rises t n xs = true then 0 else 1
  else 1
def addP (t n : Int) (xs : List Int) : List Int × Int :=
  if chk t n xs 8 = 0 then (if xs.length ≥ 8 then ([], 12) else (n :: xs, 0)) else ([], chk t n xs 8)
def chkR (t n : Int) (xs : List Int) (c : Int) : Int :=
  if xs.all isN = true then if xs.length > c then 12 else if rises t n xs = true then 0 else 1 else 1
def par (rows : List (List Int)) (i : Int) : Int := match rows[i.toNat]? with | some (x :: _) => x | _ => -1
def iterP (rows : List (List Int)) : Nat → Int → Int
  | 0, at_ => at_
  | k + 1, at_ => iterP rows k (if 0 ≤ at_ then par rows at_ else at_)
def whole (rows : List (List Int)) : Bool :=
  decide (rows.length ≤ 8) && rows.all (·.all isN) && (List.range rows.length).all fun n => decide (iterP rows 9 n < 0)
end Go.Xt
