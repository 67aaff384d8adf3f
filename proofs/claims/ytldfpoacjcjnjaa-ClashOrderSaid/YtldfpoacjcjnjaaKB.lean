/- Chapter 16: what two sides' comparison comes to. -/
import Derived.Test.YtldfpoacjcjnjaaKA
import Derived.Test.YtldfpoacjcjnjaaV7
namespace Go.Proofs.Ytldfpoacjcjnjaa.KB
open Go Go.Proofs Go.RowKit Go.Proofs.Ytldfpoacjcjnjaa.Sx Go.Proofs.Ytldfpoacjcjnjaa.KA
def cmp (a b : Int) : Int := if a < b then -1 else if a > b then 1 else 0
def cmpS (a b c d : Int) : Int := if cmp a c = 0 then cmp b d else cmp a c
theorem p7 (a b c d : Int) : V7.P cmpS a b c d := by
  unfold V7.P cmpS cmp
  simp only [bne_self_eq_false, cond_false, Bool.cond_decide]
  split
  · simp [*]
  · split
    · simp [*]
    · have : a = c := by omega
      subst this
      split
      · simp [*]
      · split <;> simp [*]
theorem cmp_run (a b c d : Int) (w : World) : Calls Try.prog 7 #[.agg #[.int .u32 a, .int .u32 b], .agg #[.int .u32 c, .int .u32 d]] w fun e w' => e = .returned (.int .i64 (cmpS a b c d)) ∧ Below w.heap.size w w' :=
  int_of_vc (C := C1 Try.prog) C1_ok mixed rfl (unr_ok (A := PA) 100) ((V7.e cmpS a b c d).mpr (p7 a b c d)) w
def g7 : List Value → Option Value
  | [.agg ⟨[.int .u32 a, .int .u32 b]⟩, .agg ⟨[.int .u32 c, .int .u32 d]⟩] => some (.int .i64 (cmpS a b c d))
  | _ => none
theorem g7_ok : SpecOk Try.prog (fun _ => none) 7 (pureS g7) := by
  refine pureS_ok (by kernel_rfl) fun vs r w hg => ?_
  unfold g7 at hg
  split at hg
  · cases hg; exact cmp_run _ _ _ _ w
  · cases hg
def C2 (P : Program) : Cx := tower ((C0 P).put 7 (pureS g7)) [] 100 8
theorem C2_ok : KOk (C2 Try.prog) := tower_ok (put_ok C0_ok g7_ok) mixed (fun _ _ h => by cases h) 8
end Go.Proofs.Ytldfpoacjcjnjaa.KB
