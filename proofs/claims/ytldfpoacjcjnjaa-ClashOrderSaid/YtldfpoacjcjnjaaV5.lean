/- The condition of function 5 of this program, as the engine gives it. -/
import Derived.Test.YtldfpoacjcjnjaaChecked
import Derived.Test.YtldfpoacjcjnjaaZL
import Derived.Test.YtldfpoacjcjnjaaKA
import Derived.Test.YtldfpoacjcjnjaaKB
namespace Go.Proofs.Ytldfpoacjcjnjaa.V5
open Go Go.Proofs Go.RowKit Go.Proofs.Ytldfpoacjcjnjaa.Sx Go.Proofs.Ytldfpoacjcjnjaa.KA Go.Proofs.Ytldfpoacjcjnjaa.KB
set_option linter.unusedVariables false
set_option maxRecDepth 100000
def P (a b c d e f : Int) : Prop :=
  bif
        (if (if 1 < cmpS c d a b then 1 else cmpS c d a b) > -1 then if 1 < cmpS c d a b then 1 else cmpS c d a b
          else -1) !=
          IntKind.i64.wrap
            (0 -
              if (if 1 < cmpS a b c d then 1 else cmpS a b c d) > -1 then if 1 < cmpS a b c d then 1 else cmpS a b c d
              else -1) then
      false = true
    else
      bif
          bif false then true
          else
            !((if (if 1 < cmpS a b c d then 1 else cmpS a b c d) > -1 then if 1 < cmpS a b c d then 1 else cmpS a b c d
                  else -1) ==
                  0) ==
                (a == c && (b == d && true)) then
        false = true
      else
        bif
            decide
              ((if (if 1 < cmpS a b c d then 1 else cmpS a b c d) > -1 then if 1 < cmpS a b c d then 1 else cmpS a b c d
                else -1) ≥
                0) then
          bif
              bif true then
                decide
                  ((if (if 1 < cmpS c d e f then 1 else cmpS c d e f) > -1 then
                      if 1 < cmpS c d e f then 1 else cmpS c d e f
                    else -1) ≥
                    0)
              else false then
            bif
                bif false then true
                else
                  bif true then
                    decide
                      ((if (if 1 < cmpS a b e f then 1 else cmpS a b e f) > -1 then
                          if 1 < cmpS a b e f then 1 else cmpS a b e f
                        else -1) <
                        0)
                  else false then
              false = true
            else
              bif
                  decide
                    ((if (if 1 < cmpS a b c d then 1 else cmpS a b c d) > -1 then
                        if 1 < cmpS a b c d then 1 else cmpS a b c d
                      else -1) >
                      0) then
                bif
                    bif true then
                      decide
                        ((if (if 1 < cmpS c d e f then 1 else cmpS c d e f) > -1 then
                            if 1 < cmpS c d e f then 1 else cmpS c d e f
                          else -1) ≥
                          0)
                    else false then
                  bif
                      bif false then true
                      else
                        bif true then
                          decide
                            ((if (if 1 < cmpS a b e f then 1 else cmpS a b e f) > -1 then
                                if 1 < cmpS a b e f then 1 else cmpS a b e f
                              else -1) ≤
                              0)
                        else false then
                    false = true
                  else
                    bif a == c then true = true
                    else
                      bif
                          bif false then true
                          else
                            decide (a > c) ==
                              decide
                                ((if (if 1 < cmpS a b c d then 1 else cmpS a b c d) > -1 then
                                    if 1 < cmpS a b c d then 1 else cmpS a b c d
                                  else -1) >
                                  0) then
                        true = true
                      else false = true
                else
                  bif a == c then true = true
                  else
                    bif
                        bif false then true
                        else
                          decide (a > c) ==
                            decide
                              ((if (if 1 < cmpS a b c d then 1 else cmpS a b c d) > -1 then
                                  if 1 < cmpS a b c d then 1 else cmpS a b c d
                                else -1) >
                                0) then
                      true = true
                    else false = true
              else
                bif a == c then true = true
                else
                  bif
                      bif false then true
                      else
                        decide (a > c) ==
                          decide
                            ((if (if 1 < cmpS a b c d then 1 else cmpS a b c d) > -1 then
                                if 1 < cmpS a b c d then 1 else cmpS a b c d
                              else -1) >
                              0) then
                    true = true
                  else false = true
          else
            bif
                decide
                  ((if (if 1 < cmpS a b c d then 1 else cmpS a b c d) > -1 then
                      if 1 < cmpS a b c d then 1 else cmpS a b c d
                    else -1) >
                    0) then
              bif
                  bif true then
                    decide
                      ((if (if 1 < cmpS c d e f then 1 else cmpS c d e f) > -1 then
                          if 1 < cmpS c d e f then 1 else cmpS c d e f
                        else -1) ≥
                        0)
                  else false then
                bif
                    bif false then true
                    else
                      bif true then
                        decide
                          ((if (if 1 < cmpS a b e f then 1 else cmpS a b e f) > -1 then
                              if 1 < cmpS a b e f then 1 else cmpS a b e f
                            else -1) ≤
                            0)
                      else false then
                  false = true
                else
                  bif a == c then true = true
                  else
                    bif
                        bif false then true
                        else
                          decide (a > c) ==
                            decide
                              ((if (if 1 < cmpS a b c d then 1 else cmpS a b c d) > -1 then
                                  if 1 < cmpS a b c d then 1 else cmpS a b c d
                                else -1) >
                                0) then
                      true = true
                    else false = true
              else
                bif a == c then true = true
                else
                  bif
                      bif false then true
                      else
                        decide (a > c) ==
                          decide
                            ((if (if 1 < cmpS a b c d then 1 else cmpS a b c d) > -1 then
                                if 1 < cmpS a b c d then 1 else cmpS a b c d
                              else -1) >
                              0) then
                    true = true
                  else false = true
            else
              bif a == c then true = true
              else
                bif
                    bif false then true
                    else
                      decide (a > c) ==
                        decide
                          ((if (if 1 < cmpS a b c d then 1 else cmpS a b c d) > -1 then
                              if 1 < cmpS a b c d then 1 else cmpS a b c d
                            else -1) >
                            0) then
                  true = true
                else false = true
        else
          bif
              decide
                ((if (if 1 < cmpS a b c d then 1 else cmpS a b c d) > -1 then if 1 < cmpS a b c d then 1 else cmpS a b c d
                  else -1) >
                  0) then
            bif
                bif true then
                  decide
                    ((if (if 1 < cmpS c d e f then 1 else cmpS c d e f) > -1 then
                        if 1 < cmpS c d e f then 1 else cmpS c d e f
                      else -1) ≥
                      0)
                else false then
              bif
                  bif false then true
                  else
                    bif true then
                      decide
                        ((if (if 1 < cmpS a b e f then 1 else cmpS a b e f) > -1 then
                            if 1 < cmpS a b e f then 1 else cmpS a b e f
                          else -1) ≤
                          0)
                    else false then
                false = true
              else
                bif a == c then true = true
                else
                  bif
                      bif false then true
                      else
                        decide (a > c) ==
                          decide
                            ((if (if 1 < cmpS a b c d then 1 else cmpS a b c d) > -1 then
                                if 1 < cmpS a b c d then 1 else cmpS a b c d
                              else -1) >
                              0) then
                    true = true
                  else false = true
            else
              bif a == c then true = true
              else
                bif
                    bif false then true
                    else
                      decide (a > c) ==
                        decide
                          ((if (if 1 < cmpS a b c d then 1 else cmpS a b c d) > -1 then
                              if 1 < cmpS a b c d then 1 else cmpS a b c d
                            else -1) >
                            0) then
                  true = true
                else false = true
          else
            bif a == c then true = true
            else
              bif
                  bif false then true
                  else
                    decide (a > c) ==
                      decide
                        ((if (if 1 < cmpS a b c d then 1 else cmpS a b c d) > -1 then
                            if 1 < cmpS a b c d then 1 else cmpS a b c d
                          else -1) >
                          0) then
                true = true
              else false = true
theorem e (a b c d e f : Int) : (lawVC (C2 Try.prog) (unr False 100) 5 [.agg #[.int .u32 a, .int .u32 b], .agg #[.int .u32 c, .int .u32 d], .agg #[.int .u32 e, .int .u32 f]] (fun r => isB r fun b => b = true)) = P a b c d e f := by kernel_rfl
end Go.Proofs.Ytldfpoacjcjnjaa.V5
