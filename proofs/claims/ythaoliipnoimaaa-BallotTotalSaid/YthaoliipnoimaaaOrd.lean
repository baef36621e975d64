/- Plain laws: the order of ballots, and which ballot may be. -/
import Derived.OpenShut
import Derived.Test.YthaoliipnoimaaaBal
import Derived.Test.YthaoliipnoimaaaXB6
namespace Go.Proofs.Ythaoliipnoimaaa.Bal
set_option linter.unusedVariables false
set_option linter.unusedSimpArgs false
open Go.RowKit Go.Proofs.YthaoliipnoimaaaW.PrintWords Go.Proofs.YthaoliipnoimaaaW.PrintLast Go.Proofs.YthaoliipnoimaaaW.PrintMore Go.Proofs.Ythaoliipnoimaaa.XB


theorem cmp6_le (a0 a1 a2 b0 b1 b2 : Int) : cmp6 a0 a1 a2 b0 b1 b2 ≤ 0 ↔ a0 < b0 ∨ (a0 = b0 ∧ (a1 < b1 ∨ (a1 = b1 ∧ a2 ≤ b2))) := by
  unfold cmp6 or3
  have z0 := cmpO_zero a0 b0
  have z1 := cmpO_zero a1 b1
  have l0 := cmpO_lt a0 b0
  have l1 := cmpO_lt a1 b1
  have l2 := cmpO_lt a2 b2
  have z2 := cmpO_zero a2 b2
  split
  · split
    · omega
    · omega
  · omega
theorem cmp6_lt (a0 a1 a2 b0 b1 b2 : Int) : cmp6 a0 a1 a2 b0 b1 b2 < 0 ↔ a0 < b0 ∨ (a0 = b0 ∧ (a1 < b1 ∨ (a1 = b1 ∧ a2 < b2))) := by
  unfold cmp6 or3
  have z0 := cmpO_zero a0 b0
  have z1 := cmpO_zero a1 b1
  have l0 := cmpO_lt a0 b0
  have l1 := cmpO_lt a1 b1
  have l2 := cmpO_lt a2 b2
  have z2 := cmpO_zero a2 b2
  split
  · split
    · omega
    · omega
  · omega
theorem cmp6_zero (a0 a1 a2 b0 b1 b2 : Int) : cmp6 a0 a1 a2 b0 b1 b2 = 0 ↔ a0 = b0 ∧ a1 = b1 ∧ a2 = b2 := by
  unfold cmp6 or3
  have z0 := cmpO_zero a0 b0
  have z1 := cmpO_zero a1 b1
  have z2 := cmpO_zero a2 b2
  split
  · split
    · omega
    · omega
  · omega
theorem cmp6_neg (a0 a1 a2 b0 b1 b2 : Int) : cmp6 a0 a1 a2 b0 b1 b2 = - cmp6 b0 b1 b2 a0 a1 a2 := by
  unfold cmp6 or3
  have n0 := cmpO_neg a0 b0
  have n1 := cmpO_neg a1 b1
  have n2 := cmpO_neg a2 b2
  split <;> split <;> (try split) <;> (try split) <;> omega
theorem cmp6_range (a0 a1 a2 b0 b1 b2 : Int) : -1 ≤ cmp6 a0 a1 a2 b0 b1 b2 ∧ cmp6 a0 a1 a2 b0 b1 b2 ≤ 1 := by
  unfold cmp6 or3
  have n0 := cmpO_range a0 b0
  have n1 := cmpO_range a1 b1
  have n2 := cmpO_range a2 b2
  split
  · split <;> omega
  · omega
def mayB (a b c : Int) : Bool := decide (a ≥ 1) && decide (a ≤ 4611686018427387903) && lifeB b c
theorem may_is (a b c : Int) : ballot_May.f a b c = some (mayB a b c) := by
  unfold ballot_May.f mayB
  simp only [life_is, Option.bind_some]
  by_cases h1 : a ≥ 1 <;> by_cases h2 : a ≤ 4611686018427387903 <;> simp [h1, h2]
theorem mayB_iff (a b c : Int) : mayB a b c = true ↔ 1 ≤ a ∧ a ≤ 4611686018427387903 ∧ 1 ≤ b ∧ b ≤ 15 ∧ 1 ≤ c ∧ c ≤ 4611686018427387903 := by
  unfold mayB lifeB
  simp
  omega
theorem wfu {x : Int} (h : (Lit.int .u64 x).wf = true) : 0 ≤ x ∧ x ≤ 18446744073709551615 := bounds_u64 h
theorem wfi {x : Int} (h : (Lit.int .i64 x).wf = true) : -9223372036854775808 ≤ x ∧ x ≤ 9223372036854775807 := bounds_i64 h
theorem wrap_small {x : Int} (h : -9223372036854775808 ≤ x) (h2 : x ≤ 9223372036854775807) : wrap64 x = x := by unfold wrap64; omega
end Go.Proofs.Ythaoliipnoimaaa.Bal
