/- The condition of function 6 of this program, as the engine gives it. -/
import Derived.Test.YtemggodhikpmdaaChecked
import Derived.Test.YtemggodhikpmdaaZL
import Derived.Test.YtemggodhikpmdaaKA
namespace Go.Proofs.Ytemggodhikpmdaa.V6
open Go Go.Proofs Go.RowKit Go.Proofs.Ytemggodhikpmdaa.Sx Go.Proofs.Ytemggodhikpmdaa.KA
set_option linter.unusedVariables false
set_option maxRecDepth 100000
def P (a b : Int) : Prop :=
  bif (if 0 > if b < a then b else a then 0 else if b < a then b else a) == 0 then
      bif (if 0 > if a < b then a else b then 0 else if a < b then a else b) == 0 then
        bif decide (a ≤ 0) then true = true
        else bif bif false then true else decide (b ≤ 0) then true = true else false = true
      else
        bif (if 0 > if a < b then a else b then 0 else if a < b then a else b) != 0 then false = true
        else
          bif
              bif false then true
              else
                (if 1 > IntKind.i64.wrap ((if 0 > if a < b then a else b then 0 else if a < b then a else b).tdiv 3) then
                    1
                  else IntKind.i64.wrap ((if 0 > if a < b then a else b then 0 else if a < b then a else b).tdiv 3)) !=
                  0 then
            false = true
          else
            bif decide (a ≤ 0) then true = true
            else bif bif false then true else decide (b ≤ 0) then true = true else false = true
    else
      bif (if 0 > if a < b then a else b then 0 else if a < b then a else b) == 0 then
        bif 0 != if 0 > if b < a then b else a then 0 else if b < a then b else a then false = true
        else
          bif
              bif false then true
              else
                0 !=
                  if 1 > IntKind.i64.wrap ((if 0 > if b < a then b else a then 0 else if b < a then b else a).tdiv 3) then
                    1
                  else IntKind.i64.wrap ((if 0 > if b < a then b else a then 0 else if b < a then b else a).tdiv 3) then
            false = true
          else
            bif
                bif false then true
                else decide ((if 0 > if b < a then b else a then 0 else if b < a then b else a) < 0) then
              false = true
            else
              bif
                  bif false then true
                  else
                    decide
                      ((if
                            1 >
                              IntKind.i64.wrap
                                ((if 0 > if b < a then b else a then 0 else if b < a then b else a).tdiv 3) then
                          1
                        else
                          IntKind.i64.wrap ((if 0 > if b < a then b else a then 0 else if b < a then b else a).tdiv 3)) <
                        0) then
                false = true
              else
                bif
                    bif false then true
                    else
                      !((if 0 > if b < a then b else a then 0 else if b < a then b else a) == 0) ==
                          ((if
                                1 >
                                  IntKind.i64.wrap
                                    ((if 0 > if b < a then b else a then 0 else if b < a then b else a).tdiv 3) then
                              1
                            else
                              IntKind.i64.wrap
                                ((if 0 > if b < a then b else a then 0 else if b < a then b else a).tdiv 3)) ==
                            0) then
                  false = true
                else
                  bif (if 0 > if b < a then b else a then 0 else if b < a then b else a) == 0 then
                    bif decide (a ≤ 0) then true = true
                    else bif bif false then true else decide (b ≤ 0) then true = true else false = true
                  else
                    bif decide ((if 0 > if b < a then b else a then 0 else if b < a then b else a) < 3) then
                      bif (if 0 > if b < a then b else a then 0 else if b < a then b else a) == a then
                        bif
                            bif true then decide ((if 0 > if b < a then b else a then 0 else if b < a then b else a) ≤ a)
                            else false then
                          bif
                              bif true then
                                decide ((if 0 > if b < a then b else a then 0 else if b < a then b else a) ≤ b)
                              else false then
                            bif
                                bif true then
                                  decide
                                    ((if
                                          1 >
                                            IntKind.i64.wrap
                                              ((if 0 > if b < a then b else a then 0 else if b < a then b else a).tdiv
                                                3) then
                                        1
                                      else
                                        IntKind.i64.wrap
                                          ((if 0 > if b < a then b else a then 0 else if b < a then b else a).tdiv 3)) ≤
                                      if 0 > if b < a then b else a then 0 else if b < a then b else a)
                                else false then
                              true = true
                            else false = true
                          else false = true
                        else false = true
                      else
                        bif
                            bif false then true
                            else (if 0 > if b < a then b else a then 0 else if b < a then b else a) == b then
                          bif
                              bif true then
                                decide ((if 0 > if b < a then b else a then 0 else if b < a then b else a) ≤ a)
                              else false then
                            bif
                                bif true then
                                  decide ((if 0 > if b < a then b else a then 0 else if b < a then b else a) ≤ b)
                                else false then
                              bif
                                  bif true then
                                    decide
                                      ((if
                                            1 >
                                              IntKind.i64.wrap
                                                ((if 0 > if b < a then b else a then 0 else if b < a then b else a).tdiv
                                                  3) then
                                          1
                                        else
                                          IntKind.i64.wrap
                                            ((if 0 > if b < a then b else a then 0 else if b < a then b else a).tdiv 3)) ≤
                                        if 0 > if b < a then b else a then 0 else if b < a then b else a)
                                  else false then
                                true = true
                              else false = true
                            else false = true
                          else false = true
                        else false = true
                    else
                      bif
                          decide
                            ((if
                                  1 >
                                    IntKind.i64.wrap
                                      ((if 0 > if b < a then b else a then 0 else if b < a then b else a).tdiv 3) then
                                1
                              else
                                IntKind.i64.wrap
                                  ((if 0 > if b < a then b else a then 0 else if b < a then b else a).tdiv 3)) ≤
                              IntKind.i64.wrap
                                ((if 0 > if b < a then b else a then 0 else if b < a then b else a).tdiv 3)) then
                        bif (if 0 > if b < a then b else a then 0 else if b < a then b else a) == a then
                          bif
                              bif true then
                                decide ((if 0 > if b < a then b else a then 0 else if b < a then b else a) ≤ a)
                              else false then
                            bif
                                bif true then
                                  decide ((if 0 > if b < a then b else a then 0 else if b < a then b else a) ≤ b)
                                else false then
                              bif
                                  bif true then
                                    decide
                                      ((if
                                            1 >
                                              IntKind.i64.wrap
                                                ((if 0 > if b < a then b else a then 0 else if b < a then b else a).tdiv
                                                  3) then
                                          1
                                        else
                                          IntKind.i64.wrap
                                            ((if 0 > if b < a then b else a then 0 else if b < a then b else a).tdiv 3)) ≤
                                        if 0 > if b < a then b else a then 0 else if b < a then b else a)
                                  else false then
                                bif
                                    bif true then
                                      bif false then true
                                      else
                                        bif true then
                                          decide
                                            (IntKind.i64.wrap
                                                ((if 0 > if b < a then b else a then 0 else if b < a then b else a).tdiv
                                                  3) <
                                              IntKind.i64.wrap
                                                ((if
                                                      1 >
                                                        IntKind.i64.wrap
                                                          ((if 0 > if b < a then b else a then 0
                                                              else if b < a then b else a).tdiv
                                                            3) then
                                                    1
                                                  else
                                                    IntKind.i64.wrap
                                                      ((if 0 > if b < a then b else a then 0
                                                          else if b < a then b else a).tdiv
                                                        3)) +
                                                  1))
                                        else false
                                    else false then
                                  true = true
                                else false = true
                              else false = true
                            else false = true
                          else false = true
                        else
                          bif
                              bif false then true
                              else (if 0 > if b < a then b else a then 0 else if b < a then b else a) == b then
                            bif
                                bif true then
                                  decide ((if 0 > if b < a then b else a then 0 else if b < a then b else a) ≤ a)
                                else false then
                              bif
                                  bif true then
                                    decide ((if 0 > if b < a then b else a then 0 else if b < a then b else a) ≤ b)
                                  else false then
                                bif
                                    bif true then
                                      decide
                                        ((if
                                              1 >
                                                IntKind.i64.wrap
                                                  ((if 0 > if b < a then b else a then 0 else if b < a then b else a).tdiv
                                                    3) then
                                            1
                                          else
                                            IntKind.i64.wrap
                                              ((if 0 > if b < a then b else a then 0 else if b < a then b else a).tdiv
                                                3)) ≤
                                          if 0 > if b < a then b else a then 0 else if b < a then b else a)
                                    else false then
                                  bif
                                      bif true then
                                        bif false then true
                                        else
                                          bif true then
                                            decide
                                              (IntKind.i64.wrap
                                                  ((if 0 > if b < a then b else a then 0 else if b < a then b else a).tdiv
                                                    3) <
                                                IntKind.i64.wrap
                                                  ((if
                                                        1 >
                                                          IntKind.i64.wrap
                                                            ((if 0 > if b < a then b else a then 0
                                                                else if b < a then b else a).tdiv
                                                              3) then
                                                      1
                                                    else
                                                      IntKind.i64.wrap
                                                        ((if 0 > if b < a then b else a then 0
                                                            else if b < a then b else a).tdiv
                                                          3)) +
                                                    1))
                                          else false
                                      else false then
                                    true = true
                                  else false = true
                                else false = true
                              else false = true
                            else false = true
                          else false = true
                      else
                        bif (if 0 > if b < a then b else a then 0 else if b < a then b else a) == a then
                          bif
                              bif true then
                                decide ((if 0 > if b < a then b else a then 0 else if b < a then b else a) ≤ a)
                              else false then
                            bif
                                bif true then
                                  decide ((if 0 > if b < a then b else a then 0 else if b < a then b else a) ≤ b)
                                else false then
                              bif
                                  bif true then
                                    decide
                                      ((if
                                            1 >
                                              IntKind.i64.wrap
                                                ((if 0 > if b < a then b else a then 0 else if b < a then b else a).tdiv
                                                  3) then
                                          1
                                        else
                                          IntKind.i64.wrap
                                            ((if 0 > if b < a then b else a then 0 else if b < a then b else a).tdiv 3)) ≤
                                        if 0 > if b < a then b else a then 0 else if b < a then b else a)
                                  else false then
                                false = true
                              else false = true
                            else false = true
                          else false = true
                        else
                          bif
                              bif false then true
                              else (if 0 > if b < a then b else a then 0 else if b < a then b else a) == b then
                            bif
                                bif true then
                                  decide ((if 0 > if b < a then b else a then 0 else if b < a then b else a) ≤ a)
                                else false then
                              bif
                                  bif true then
                                    decide ((if 0 > if b < a then b else a then 0 else if b < a then b else a) ≤ b)
                                  else false then
                                bif
                                    bif true then
                                      decide
                                        ((if
                                              1 >
                                                IntKind.i64.wrap
                                                  ((if 0 > if b < a then b else a then 0 else if b < a then b else a).tdiv
                                                    3) then
                                            1
                                          else
                                            IntKind.i64.wrap
                                              ((if 0 > if b < a then b else a then 0 else if b < a then b else a).tdiv
                                                3)) ≤
                                          if 0 > if b < a then b else a then 0 else if b < a then b else a)
                                    else false then
                                  false = true
                                else false = true
                              else false = true
                            else false = true
                          else false = true
      else
        bif
            (if 0 > if a < b then a else b then 0 else if a < b then a else b) !=
              if 0 > if b < a then b else a then 0 else if b < a then b else a then
          false = true
        else
          bif
              bif false then true
              else
                (if 1 > IntKind.i64.wrap ((if 0 > if a < b then a else b then 0 else if a < b then a else b).tdiv 3) then
                    1
                  else IntKind.i64.wrap ((if 0 > if a < b then a else b then 0 else if a < b then a else b).tdiv 3)) !=
                  if 1 > IntKind.i64.wrap ((if 0 > if b < a then b else a then 0 else if b < a then b else a).tdiv 3) then
                    1
                  else IntKind.i64.wrap ((if 0 > if b < a then b else a then 0 else if b < a then b else a).tdiv 3) then
            false = true
          else
            bif
                bif false then true
                else decide ((if 0 > if b < a then b else a then 0 else if b < a then b else a) < 0) then
              false = true
            else
              bif
                  bif false then true
                  else
                    decide
                      ((if
                            1 >
                              IntKind.i64.wrap
                                ((if 0 > if b < a then b else a then 0 else if b < a then b else a).tdiv 3) then
                          1
                        else
                          IntKind.i64.wrap ((if 0 > if b < a then b else a then 0 else if b < a then b else a).tdiv 3)) <
                        0) then
                false = true
              else
                bif
                    bif false then true
                    else
                      !((if 0 > if b < a then b else a then 0 else if b < a then b else a) == 0) ==
                          ((if
                                1 >
                                  IntKind.i64.wrap
                                    ((if 0 > if b < a then b else a then 0 else if b < a then b else a).tdiv 3) then
                              1
                            else
                              IntKind.i64.wrap
                                ((if 0 > if b < a then b else a then 0 else if b < a then b else a).tdiv 3)) ==
                            0) then
                  false = true
                else
                  bif (if 0 > if b < a then b else a then 0 else if b < a then b else a) == 0 then
                    bif decide (a ≤ 0) then true = true
                    else bif bif false then true else decide (b ≤ 0) then true = true else false = true
                  else
                    bif decide ((if 0 > if b < a then b else a then 0 else if b < a then b else a) < 3) then
                      bif (if 0 > if b < a then b else a then 0 else if b < a then b else a) == a then
                        bif
                            bif true then decide ((if 0 > if b < a then b else a then 0 else if b < a then b else a) ≤ a)
                            else false then
                          bif
                              bif true then
                                decide ((if 0 > if b < a then b else a then 0 else if b < a then b else a) ≤ b)
                              else false then
                            bif
                                bif true then
                                  decide
                                    ((if
                                          1 >
                                            IntKind.i64.wrap
                                              ((if 0 > if b < a then b else a then 0 else if b < a then b else a).tdiv
                                                3) then
                                        1
                                      else
                                        IntKind.i64.wrap
                                          ((if 0 > if b < a then b else a then 0 else if b < a then b else a).tdiv 3)) ≤
                                      if 0 > if b < a then b else a then 0 else if b < a then b else a)
                                else false then
                              true = true
                            else false = true
                          else false = true
                        else false = true
                      else
                        bif
                            bif false then true
                            else (if 0 > if b < a then b else a then 0 else if b < a then b else a) == b then
                          bif
                              bif true then
                                decide ((if 0 > if b < a then b else a then 0 else if b < a then b else a) ≤ a)
                              else false then
                            bif
                                bif true then
                                  decide ((if 0 > if b < a then b else a then 0 else if b < a then b else a) ≤ b)
                                else false then
                              bif
                                  bif true then
                                    decide
                                      ((if
                                            1 >
                                              IntKind.i64.wrap
                                                ((if 0 > if b < a then b else a then 0 else if b < a then b else a).tdiv
                                                  3) then
                                          1
                                        else
                                          IntKind.i64.wrap
                                            ((if 0 > if b < a then b else a then 0 else if b < a then b else a).tdiv 3)) ≤
                                        if 0 > if b < a then b else a then 0 else if b < a then b else a)
                                  else false then
                                true = true
                              else false = true
                            else false = true
                          else false = true
                        else false = true
                    else
                      bif
                          decide
                            ((if
                                  1 >
                                    IntKind.i64.wrap
                                      ((if 0 > if b < a then b else a then 0 else if b < a then b else a).tdiv 3) then
                                1
                              else
                                IntKind.i64.wrap
                                  ((if 0 > if b < a then b else a then 0 else if b < a then b else a).tdiv 3)) ≤
                              IntKind.i64.wrap
                                ((if 0 > if b < a then b else a then 0 else if b < a then b else a).tdiv 3)) then
                        bif (if 0 > if b < a then b else a then 0 else if b < a then b else a) == a then
                          bif
                              bif true then
                                decide ((if 0 > if b < a then b else a then 0 else if b < a then b else a) ≤ a)
                              else false then
                            bif
                                bif true then
                                  decide ((if 0 > if b < a then b else a then 0 else if b < a then b else a) ≤ b)
                                else false then
                              bif
                                  bif true then
                                    decide
                                      ((if
                                            1 >
                                              IntKind.i64.wrap
                                                ((if 0 > if b < a then b else a then 0 else if b < a then b else a).tdiv
                                                  3) then
                                          1
                                        else
                                          IntKind.i64.wrap
                                            ((if 0 > if b < a then b else a then 0 else if b < a then b else a).tdiv 3)) ≤
                                        if 0 > if b < a then b else a then 0 else if b < a then b else a)
                                  else false then
                                bif
                                    bif true then
                                      bif false then true
                                      else
                                        bif true then
                                          decide
                                            (IntKind.i64.wrap
                                                ((if 0 > if b < a then b else a then 0 else if b < a then b else a).tdiv
                                                  3) <
                                              IntKind.i64.wrap
                                                ((if
                                                      1 >
                                                        IntKind.i64.wrap
                                                          ((if 0 > if b < a then b else a then 0
                                                              else if b < a then b else a).tdiv
                                                            3) then
                                                    1
                                                  else
                                                    IntKind.i64.wrap
                                                      ((if 0 > if b < a then b else a then 0
                                                          else if b < a then b else a).tdiv
                                                        3)) +
                                                  1))
                                        else false
                                    else false then
                                  true = true
                                else false = true
                              else false = true
                            else false = true
                          else false = true
                        else
                          bif
                              bif false then true
                              else (if 0 > if b < a then b else a then 0 else if b < a then b else a) == b then
                            bif
                                bif true then
                                  decide ((if 0 > if b < a then b else a then 0 else if b < a then b else a) ≤ a)
                                else false then
                              bif
                                  bif true then
                                    decide ((if 0 > if b < a then b else a then 0 else if b < a then b else a) ≤ b)
                                  else false then
                                bif
                                    bif true then
                                      decide
                                        ((if
                                              1 >
                                                IntKind.i64.wrap
                                                  ((if 0 > if b < a then b else a then 0 else if b < a then b else a).tdiv
                                                    3) then
                                            1
                                          else
                                            IntKind.i64.wrap
                                              ((if 0 > if b < a then b else a then 0 else if b < a then b else a).tdiv
                                                3)) ≤
                                          if 0 > if b < a then b else a then 0 else if b < a then b else a)
                                    else false then
                                  bif
                                      bif true then
                                        bif false then true
                                        else
                                          bif true then
                                            decide
                                              (IntKind.i64.wrap
                                                  ((if 0 > if b < a then b else a then 0 else if b < a then b else a).tdiv
                                                    3) <
                                                IntKind.i64.wrap
                                                  ((if
                                                        1 >
                                                          IntKind.i64.wrap
                                                            ((if 0 > if b < a then b else a then 0
                                                                else if b < a then b else a).tdiv
                                                              3) then
                                                      1
                                                    else
                                                      IntKind.i64.wrap
                                                        ((if 0 > if b < a then b else a then 0
                                                            else if b < a then b else a).tdiv
                                                          3)) +
                                                    1))
                                          else false
                                      else false then
                                    true = true
                                  else false = true
                                else false = true
                              else false = true
                            else false = true
                          else false = true
                      else
                        bif (if 0 > if b < a then b else a then 0 else if b < a then b else a) == a then
                          bif
                              bif true then
                                decide ((if 0 > if b < a then b else a then 0 else if b < a then b else a) ≤ a)
                              else false then
                            bif
                                bif true then
                                  decide ((if 0 > if b < a then b else a then 0 else if b < a then b else a) ≤ b)
                                else false then
                              bif
                                  bif true then
                                    decide
                                      ((if
                                            1 >
                                              IntKind.i64.wrap
                                                ((if 0 > if b < a then b else a then 0 else if b < a then b else a).tdiv
                                                  3) then
                                          1
                                        else
                                          IntKind.i64.wrap
                                            ((if 0 > if b < a then b else a then 0 else if b < a then b else a).tdiv 3)) ≤
                                        if 0 > if b < a then b else a then 0 else if b < a then b else a)
                                  else false then
                                false = true
                              else false = true
                            else false = true
                          else false = true
                        else
                          bif
                              bif false then true
                              else (if 0 > if b < a then b else a then 0 else if b < a then b else a) == b then
                            bif
                                bif true then
                                  decide ((if 0 > if b < a then b else a then 0 else if b < a then b else a) ≤ a)
                                else false then
                              bif
                                  bif true then
                                    decide ((if 0 > if b < a then b else a then 0 else if b < a then b else a) ≤ b)
                                  else false then
                                bif
                                    bif true then
                                      decide
                                        ((if
                                              1 >
                                                IntKind.i64.wrap
                                                  ((if 0 > if b < a then b else a then 0 else if b < a then b else a).tdiv
                                                    3) then
                                            1
                                          else
                                            IntKind.i64.wrap
                                              ((if 0 > if b < a then b else a then 0 else if b < a then b else a).tdiv
                                                3)) ≤
                                          if 0 > if b < a then b else a then 0 else if b < a then b else a)
                                    else false then
                                  false = true
                                else false = true
                              else false = true
                            else false = true
                          else false = true
theorem e (a b : Int) : (lawVC (C1 Try.prog) (unr False 100) 6 [.int .i64 a, .int .i64 b] (fun r => isB r fun b => b = true)) = P a b := by kernel_rfl
end Go.Proofs.Ytemggodhikpmdaa.V6
