/- ClientStale: what the calls come to. -/
import Derived.Test.YtajnladoomkgaaaNwc
namespace Go.Proofs.Ytajnladoomkgaaa.Cli
set_option linter.unusedVariables false
set_option linter.unusedSimpArgs false
open Go.RowKit Go.Proofs.YtajnladoomkgaaaW.PrintWords Go.Proofs.YtajnladoomkgaaaW.PrintLast Go.Proofs.YtajnladoomkgaaaW.PrintMore Go.Proofs.Ytajnladoomkgaaa.XC
attribute [local go_sem] max2_int min2_int max_two min_two

theorem askC_is (c : CliS) (now : Int) : (askC c now).1.Busy = c.Busy ∧ (askC c now).1.Call = c.Call ∧ (askC c now).1.N = c.N ∧ (askC c now).1.Br = c.Br ∧ (askC c now).1.Id = c.Id ∧ (askC c now).1.Inc = c.Inc ∧ (askC c now).1.Born = c.Born := by
  unfold askC
  split <;> exact ⟨rfl, rfl, rfl, rfl, rfl, rfl, rfl⟩
theorem startC_no (c : CliS) (now : Int) (x : S27) (h : mayB (begun c x) = false) : startC c now x = (zCli, [], 1) := by unfold startC; rw [h]; rfl
theorem startC_ok (c : CliS) (now : Int) (x : S27) (h : mayB (begun c x) = true) (hb : c.Busy = 0) (hn : c.N < 4611686018427387903) :
    ∃ c1 s1, startC c now x = (c1, s1, 0) ∧ c1.Busy = 1 ∧ c1.Call = begun c x ∧ c1.N = c.N + 1 ∧ c1.Br = c.Br ∧ c1.Id = c.Id ∧ c1.Inc = c.Inc ∧ c1.Born = now := by
  have h1 := askC_is { c with Busy := 1, Call := begun c x, Born := now, N := c.N + 1 } now
  refine ⟨_, _, by unfold startC; rw [if_pos h, if_neg (by omega), if_neg (by omega)], ?_⟩
  exact h1
theorem nextN_is (n : Int) (h0 : 0 ≤ n) (h1 : n < 4611686018427387903) : nextN n = n + 1 := by
  unfold nextN
  have e : (if (4611686018427387902 : Int) < n then 4611686018427387902 else n) = n := by rw [if_neg (by omega)]
  rw [e, u64_in (n + 1) (by omega) (by omega), if_neg (by omega)]
theorem takeC_end (c : CliS) (now : Int) (r : S36) (hm : mineB c r = true) (h1 : r.f3 ≠ 1) (h2 : r.f3 ≠ 2) : takeC c now r = ({ c with Busy := 0 }, [], r, true) := by
  unfold takeC
  rw [if_pos hm, if_neg (by omega)]
theorem takeC_no (c : CliS) (now : Int) (r : S36) (hm : mineB c r = false) : takeC c now r = (c, [], z36, false) := by unfold takeC; rw [hm]; rfl
theorem mineB_is (c : CliS) (r : S36) : mineB c r = true ↔ c.Busy = 1 ∧ r.f0 = c.Call.f0 ∧ r.f1 = c.Call.f1 ∧ r.f2 = c.Call.f2 := by
  simp [mineB, and_assoc]
theorem newOk_len {id inc : Int} {l : List Int} (h : newOk id inc l = true) : 1 ≤ l.length ∧ l.length ≤ 3 := by
  simp [newOk] at h
  omega
end Go.Proofs.Ytajnladoomkgaaa.Cli
