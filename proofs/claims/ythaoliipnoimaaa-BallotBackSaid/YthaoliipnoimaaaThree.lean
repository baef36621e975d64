/- Plain laws: a ballot of three numbers, and its numbers. -/
import Derived.Test.YthaoliipnoimaaaOrd
import Derived.Test.YthaoliipnoimaaaXB9
import Derived.Test.YthaoliipnoimaaaXB10
namespace Go.Proofs.Ythaoliipnoimaaa.Bal
set_option linter.unusedVariables false
set_option linter.unusedSimpArgs false
open Go.RowKit Go.Proofs.YthaoliipnoimaaaW.PrintWords Go.Proofs.YthaoliipnoimaaaW.PrintLast Go.Proofs.YthaoliipnoimaaaW.PrintMore Go.Proofs.Ythaoliipnoimaaa.XB


theorem rd3 (a b c : Int) : rd [a, b, c] 0 = a ∧ rd [a, b, c] 1 = b ∧ rd [a, b, c] 2 = c := ⟨rfl, rfl, rfl⟩
theorem mx_u (n : Int) (h : n ≤ 9223372036854775807) : IntKind.u64.wrap (mx n 0) = if n < 0 then 0 else n := by
  simp only [IntKind.wrap, mx]
  simp [IntKind.bits, IntKind.signed]
  split <;> omega
theorem rd_el {xs : List Int} (n : Nat) (h : n < xs.length) : rd xs (n : Int) = xs[n] := by
  simp [rd, List.getD_eq_getElem?_getD, List.getElem?_eq_getElem h]
theorem rd_one {xs : List Int} (h : 1 < xs.length) : rd xs 1 = xs[1] := rd_el 1 h
def ofB (l : List Int) : Int × Int × Int × Bool :=
  if l.length = 3 ∧ rd l 1 ≤ 15 then (if (rd l 0 = 0 ∧ rd l 1 = 0 ∧ rd l 2 = 0) ∨ mayB (rd l 0) (rd l 1) (rd l 2) = true then (rd l 0, rd l 1, rd l 2, true) else (0, 0, 0, false)) else (0, 0, 0, false)
theorem Of_ev (l : List Int) (hw : ∀ x ∈ l, 0 ≤ x) : Ev (fun k => ballot_Of.f k l) (ofB l) := by
  refine Ev.of (ballot_Of.mono l) (k := 1) ?_
  unfold ballot_Of.f ofB
  by_cases h : l.length = 3
  · rw [if_pos (by omega), if_pos (by omega)]
    have h1 : 0 ≤ rd l 1 := by
      rw [show rd l 1 = l[1] from rd_one (by omega)]
      exact hw _ (List.getElem_mem _)
    simp only [ballot_Of.j0, may_is, Option.bind_some]
    by_cases h2 : rd l 1 > 15
    · rw [decide_eq_true h2, if_pos rfl, if_neg (by omega)]
    · rw [decide_eq_false h2, if_neg (by decide), if_pos (by omega), if_pos (by omega), if_pos (by omega), if_pos (show l.length = 3 ∧ rd l 1 ≤ 15 by omega), wrap_small (by omega) (by omega)]
      by_cases hz : rd l 0 = 0 ∧ rd l 1 = 0 ∧ rd l 2 = 0
      · rw [if_neg (by simp [hz.1, hz.2.1, hz.2.2]), if_pos (.inl hz)]
      · rw [if_pos (by
          simp only [Bool.or_eq_true, Bool.not_eq_true', beq_eq_false_iff_ne, ne_eq]
          by_cases z0 : rd l 0 = 0
          · by_cases z1 : rd l 1 = 0
            · exact .inr (.inr (fun z2 => hz ⟨z0, z1, z2⟩))
            · exact .inr (.inl z1)
          · exact .inl z0)]
        by_cases hm : mayB (rd l 0) (rd l 1) (rd l 2) = true
        · rw [if_pos hm, if_pos (.inr hm)]
        · rw [if_neg hm, if_neg (fun z => z.elim hz hm)]
  · rw [if_neg (by omega), if_neg (by omega)]
    simp only [ballot_Of.j0, if_true]
end Go.Proofs.Ythaoliipnoimaaa.Bal
