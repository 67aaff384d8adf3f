/- The condition of function 5 of this program, as the engine gives it. -/
import Derived.Test.YtemggodhikpmdaaChecked
import Derived.Test.YtemggodhikpmdaaZL
import Derived.Test.YtemggodhikpmdaaKA
namespace Go.Proofs.Ytemggodhikpmdaa.V5
open Go Go.Proofs Go.RowKit Go.Proofs.Ytemggodhikpmdaa.Sx Go.Proofs.Ytemggodhikpmdaa.KA
set_option linter.unusedVariables false
set_option maxRecDepth 100000
def P (a b : Int) : Prop :=
  bif (if 0 > if b < a then b else a then 0 else if b < a then b else a) == 0 then
      bif decide (b < a) then
        bif decide (b ≤ 0) then true = true
        else
          bif decide (b < 3) then bif 0 == b then false = true else false = true
          else
            bif 0 == b then
              bif bif true then 0 == IntKind.i64.wrap (b.tdiv 3) else false then true = true else false = true
            else false = true
      else
        bif decide (a ≤ 0) then true = true
        else
          bif decide (a < 3) then bif 0 == a then false = true else false = true
          else
            bif 0 == a then
              bif bif true then 0 == IntKind.i64.wrap (a.tdiv 3) else false then true = true else false = true
            else false = true
    else
      bif decide (b < a) then
        bif decide (b ≤ 0) then
          bif (if 0 > if b < a then b else a then 0 else if b < a then b else a) == 0 then
            bif
                bif true then
                  (if
                        1 >
                          IntKind.i64.wrap
                            ((if 0 > if b < a then b else a then 0 else if b < a then b else a).tdiv 3) then
                      1
                    else IntKind.i64.wrap ((if 0 > if b < a then b else a then 0 else if b < a then b else a).tdiv 3)) ==
                    0
                else false then
              true = true
            else false = true
          else false = true
        else
          bif decide (b < 3) then
            bif (if 0 > if b < a then b else a then 0 else if b < a then b else a) == b then
              bif
                  bif true then
                    (if
                          1 >
                            IntKind.i64.wrap
                              ((if 0 > if b < a then b else a then 0 else if b < a then b else a).tdiv 3) then
                        1
                      else
                        IntKind.i64.wrap ((if 0 > if b < a then b else a then 0 else if b < a then b else a).tdiv 3)) ==
                      1
                  else false then
                true = true
              else false = true
            else false = true
          else
            bif (if 0 > if b < a then b else a then 0 else if b < a then b else a) == b then
              bif
                  bif true then
                    (if
                          1 >
                            IntKind.i64.wrap
                              ((if 0 > if b < a then b else a then 0 else if b < a then b else a).tdiv 3) then
                        1
                      else
                        IntKind.i64.wrap ((if 0 > if b < a then b else a then 0 else if b < a then b else a).tdiv 3)) ==
                      IntKind.i64.wrap (b.tdiv 3)
                  else false then
                true = true
              else false = true
            else false = true
      else
        bif decide (a ≤ 0) then
          bif (if 0 > if b < a then b else a then 0 else if b < a then b else a) == 0 then
            bif
                bif true then
                  (if
                        1 >
                          IntKind.i64.wrap
                            ((if 0 > if b < a then b else a then 0 else if b < a then b else a).tdiv 3) then
                      1
                    else IntKind.i64.wrap ((if 0 > if b < a then b else a then 0 else if b < a then b else a).tdiv 3)) ==
                    0
                else false then
              true = true
            else false = true
          else false = true
        else
          bif decide (a < 3) then
            bif (if 0 > if b < a then b else a then 0 else if b < a then b else a) == a then
              bif
                  bif true then
                    (if
                          1 >
                            IntKind.i64.wrap
                              ((if 0 > if b < a then b else a then 0 else if b < a then b else a).tdiv 3) then
                        1
                      else
                        IntKind.i64.wrap ((if 0 > if b < a then b else a then 0 else if b < a then b else a).tdiv 3)) ==
                      1
                  else false then
                true = true
              else false = true
            else false = true
          else
            bif (if 0 > if b < a then b else a then 0 else if b < a then b else a) == a then
              bif
                  bif true then
                    (if
                          1 >
                            IntKind.i64.wrap
                              ((if 0 > if b < a then b else a then 0 else if b < a then b else a).tdiv 3) then
                        1
                      else
                        IntKind.i64.wrap ((if 0 > if b < a then b else a then 0 else if b < a then b else a).tdiv 3)) ==
                      IntKind.i64.wrap (a.tdiv 3)
                  else false then
                true = true
              else false = true
            else false = true
theorem e (a b : Int) : (lawVC (C1 Try.prog) (unr False 100) 5 [.int .i64 a, .int .i64 b] (fun r => isB r fun b => b = true)) = P a b := by kernel_rfl
end Go.Proofs.Ytemggodhikpmdaa.V5
