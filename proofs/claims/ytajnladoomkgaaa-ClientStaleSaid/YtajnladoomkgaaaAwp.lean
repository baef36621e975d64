/- The chapter's examples as plain values. -/
import Derived.Test.YtajnladoomkgaaaCal
import Derived.Test.YtajnladoomkgaaaNwc
namespace Go.Proofs.Ytajnladoomkgaaa.Cli
set_option linter.unusedVariables false
set_option linter.unusedSimpArgs false
open Go.RowKit Go.Proofs.YtajnladoomkgaaaW.PrintWords Go.Proofs.YtajnladoomkgaaaW.PrintLast Go.Proofs.YtajnladoomkgaaaW.PrintMore Go.Proofs.Ytajnladoomkgaaa.XC
attribute [local go_sem] max2_int min2_int max_two min_two

def CliOk (c : CliS) : Prop := c.Br.length < 1000000 ∧ c.Call.f8.length ≤ 140737488351232 ∧ 0 ≤ c.N ∧ c.N < 18446744073709551616 ∧ 0 ≤ c.Born ∧ 0 ≤ c.Since
instance (c : CliS) : Decidable (CliOk c) := by unfold CliOk; infer_instance
def xa : S27 := ⟨0, 0, 0, 1, 1, 0, 1, 0, []⟩
def ra : S36 := ⟨9, 1, 1, 1, 0, 5, 0, 0, []⟩
def rb : S36 := ⟨9, 1, 1, 1, 0, 0, 0, 0, []⟩
def rc : S36 := ⟨9, 1, 1, 0, 7, 0, 0, 0, []⟩
def aq0 : CliS := newCli 9 1 [4, 5]
def aq1 := startC aq0 0 xa
def aq2 := takeC aq1.1 1 ra
def aq3 := takeC aq2.1 1 rb
def aq4 := tickC aq3.1 3
def aq5 := tickC aq3.1 4
def aq6 := takeC aq5.1 5 rc
def aq7 := tickC aq6.1 60
theorem new45 : newOk 9 1 [4, 5] = true := by
  have e : srt [4, 5] = [4, 5] := List.mergeSort_of_pairwise (by simp)
  have h : (decide ((1 : Int) ≤ 9) && decide ((9 : Int) ≤ 15) && countB 1 && decide (1 ≤ ([4, 5] : List Int).length) && decide (([4, 5] : List Int).length ≤ 3) && !([4, 5] : List Int).any oddB && decide ((Lib.compact ([4, 5] : List Int)).length = ([4, 5] : List Int).length)) = true := by kernel_rfl
  unfold newOk
  rw [e]
  exact h
theorem aw_ok : CliOk aq0 ∧ CliOk aq1.1 ∧ CliOk aq2.1 ∧ CliOk aq3.1 ∧ CliOk aq5.1 ∧ CliOk aq6.1 := of_decide_eq_true (by kernel_rfl)
theorem aw_v : aq1.2.2 = 0 ∧ aq1.2.1.length = 1 ∧ (rd_T48 aq1.2.1 0).f0 = 4 ∧ (rd_T48 aq1.2.1 0).f1.f2 = 1 ∧ aq2.2.1.length = 1 ∧ (rd_T48 aq2.2.1 0).f0 = 5 ∧ aq2.2.2.2 = false ∧ aq3.2.1.length = 0 ∧ aq3.2.2.2 = false ∧ aq4.2.1.length = 0 ∧ aq5.2.1.length = 1 ∧ (rd_T48 aq5.2.1 0).f0 = 4 ∧ aq6.2.2.1.f4 = 7 ∧ aq6.2.2.2 = true ∧ aq7.2.2.2 = false ∧ aq6.1.Busy = 0 := by
  refine ⟨?_, ?_, ?_, ?_, ?_, ?_, ?_, ?_, ?_, ?_, ?_, ?_, ?_, ?_, ?_, ?_⟩ <;> kernel_rfl
end Go.Proofs.Ytajnladoomkgaaa.Cli
