/- The condition of function 7 of this program, as the engine gives it. -/
import Derived.Test.YtldfpoacjcjnjaaChecked
import Derived.Test.YtldfpoacjcjnjaaZL
import Derived.Test.YtldfpoacjcjnjaaKA
namespace Go.Proofs.Ytldfpoacjcjnjaa.V7
open Go Go.Proofs Go.RowKit Go.Proofs.Ytldfpoacjcjnjaa.Sx Go.Proofs.Ytldfpoacjcjnjaa.KA
set_option linter.unusedVariables false
set_option maxRecDepth 100000
def P (F : Int → Int → Int → Int → Int) (a b c d : Int) : Prop :=
  bif a != a then
      bif c != c then
        bif b != b then bif d != d then 0 = F a b c d else -1 = F a b c d
        else
          bif d != d then 1 = F a b c d
          else bif decide (b < d) then -1 = F a b c d else bif decide (b > d) then 1 = F a b c d else 0 = F a b c d
      else
        bif b != b then bif d != d then -1 = F a b c d else -1 = F a b c d
        else
          bif d != d then -1 = F a b c d
          else bif decide (b < d) then -1 = F a b c d else bif decide (b > d) then -1 = F a b c d else -1 = F a b c d
    else
      bif c != c then
        bif b != b then bif d != d then 1 = F a b c d else 1 = F a b c d
        else
          bif d != d then 1 = F a b c d
          else bif decide (b < d) then 1 = F a b c d else bif decide (b > d) then 1 = F a b c d else 1 = F a b c d
      else
        bif decide (a < c) then
          bif b != b then bif d != d then -1 = F a b c d else -1 = F a b c d
          else
            bif d != d then -1 = F a b c d
            else bif decide (b < d) then -1 = F a b c d else bif decide (b > d) then -1 = F a b c d else -1 = F a b c d
        else
          bif decide (a > c) then
            bif b != b then bif d != d then 1 = F a b c d else 1 = F a b c d
            else
              bif d != d then 1 = F a b c d
              else bif decide (b < d) then 1 = F a b c d else bif decide (b > d) then 1 = F a b c d else 1 = F a b c d
          else
            bif b != b then bif d != d then 0 = F a b c d else -1 = F a b c d
            else
              bif d != d then 1 = F a b c d
              else bif decide (b < d) then -1 = F a b c d else bif decide (b > d) then 1 = F a b c d else 0 = F a b c d
theorem e (F : Int → Int → Int → Int → Int) (a b c d : Int) : (lawVC (C1 Try.prog) (unr False 100) 7 [.agg #[.int .u32 a, .int .u32 b], .agg #[.int .u32 c, .int .u32 d]] (fun r => isI .i64 r fun x => x = F a b c d)) = P F a b c d := by kernel_rfl
end Go.Proofs.Ytldfpoacjcjnjaa.V7
