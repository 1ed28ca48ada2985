/- Plain: the truth value of a condition. -/
import Derived.Test.YtgaeabodofabmaaDoorBase
import Derived.Test.YtgaeabodofabmaaDoorLike
import Derived.Lib.Bytealg
namespace Go.Proofs.YtgaeabodofabmaaDoor

def holdsS (op n : Int) : Bool := if op = 10 then n == 0 else if op = 11 then n != 0 else if op = 12 then decide (n < 0) else if op = 13 then decide (n ≤ 0) else if op = 14 then decide (0 < n) else decide (0 ≤ n)
def cmpS (a b : Int) : Int := if a < b then -1 else if b < a then 1 else 0
def orS (a b : Int) : Int := if a = 0 then b else a

/-- The truth value of a comparison of two values. -/
def compS (op : Int) (a b : Vl) : Option T3 :=
  if a.kind = 0 ∨ b.kind = 0 then some .u else
  if op = 16 then (if a.text.size ≤ 2000000000000 ∧ b.text.size ≤ 2000000000000 then some (T3.of (likeS a.text.data.toList b.text.data.toList)) else none) else
  some (T3.of (holdsS op (orS (cmpS a.int b.int) (Lib.compareBytes a.text.data.toList b.text.data.toList))))

/-- What Condition returns; none: an index or a division would fail. -/
def Ex.cond (R : List Vl) : Ex → Option T3
  | .mk op _ _ _ _ args =>
    if op = 1 then some .u else
    match args with
    | [] => none
    | a :: l =>
      if op = 20 then (Ex.cond R a).map T3.not else
      if op = 17 then (Ex.value R a).map fun v => T3.of (v.kind == 0) else
      match l with
      | [] => none
      | b :: _ =>
        if op = 18 then (Ex.cond R a).bind fun x => (Ex.cond R b).map fun y => x.and y else
        if op = 19 then (Ex.cond R a).bind fun x => (Ex.cond R b).map fun y => x.or y else
        (Ex.value R a).bind fun v => (Ex.value R b).bind fun u => compS op v u
end Go.Proofs.YtgaeabodofabmaaDoor
