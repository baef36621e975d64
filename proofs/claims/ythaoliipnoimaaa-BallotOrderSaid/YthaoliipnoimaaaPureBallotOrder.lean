/- The law BallotOrder, plainly: order, numbers and ballot of three numbers are the document's. -/
import Derived.Test.YthaoliipnoimaaaThree
import Derived.Test.YthaoliipnoimaaaXB11
namespace Go.Proofs.Ythaoliipnoimaaa.Bal
set_option linter.unusedVariables false
set_option linter.unusedSimpArgs false
open Go.RowKit Go.Proofs.YthaoliipnoimaaaW.PrintWords Go.Proofs.YthaoliipnoimaaaW.PrintLast Go.Proofs.YthaoliipnoimaaaW.PrintMore Go.Proofs.Ythaoliipnoimaaa.XB


theorem refLifeIs (a b : Int) : scrivenerref06_Life.f a b = some (lifeB a b) := by
  have e : scrivenerref06_Life.f a b = ballot_life.f a b := by
    unfold scrivenerref06_Life.f ballot_life.f
    by_cases h1 : a > 0
    · have h1' : a ≥ 1 := h1
      by_cases h3 : b > 0
      · have h3' : b ≥ 1 := h3
        simp [h1, h1', h3, h3']
      · have h3' : ¬ b ≥ 1 := h3
        simp [h1, h1', h3, h3']
    · have h1' : ¬ a ≥ 1 := h1
      simp [h1, h1']
  rw [e, life_is]
theorem refMay_is (a b c : Int) : scrivenerref06_May.f a b c = some (mayB a b c) := by
  unfold scrivenerref06_May.f mayB
  simp only [refLifeIs, Option.bind_some]
  by_cases h1 : a > 0
  · have h1' : a ≥ 1 := h1
    by_cases h2 : a ≤ 4611686018427387903 <;> simp [h1, h1', h2]
  · have h1' : ¬ a ≥ 1 := h1
    simp [h1, h1']
theorem refCmp_is (a0 a1 a2 b0 b1 b2 : Int) : scrivenerref06_Cmp.f a0 a1 a2 b0 b1 b2 = some (cmp6 a0 a1 a2 b0 b1 b2) := by
  unfold scrivenerref06_Cmp.f cmp6 or3
  by_cases h0 : a0 = b0
  · rw [if_pos h0, if_pos ((cmpO_zero a0 b0).2 h0)]
    by_cases h1 : a1 = b1
    · rw [if_pos h1, if_pos ((cmpO_zero a1 b1).2 h1)]
      by_cases h2 : a2 = b2
      · rw [if_pos h2, (cmpO_zero a2 b2).2 h2]
      · rw [if_neg h2, cmpO]
        by_cases h3 : a2 < b2
        · rw [if_pos h3, if_pos h3]
        · rw [if_neg h3, if_neg h3, if_pos (by omega)]
    · rw [if_neg h1, if_neg (fun h => h1 ((cmpO_zero a1 b1).1 h)), cmpO]
      by_cases h3 : a1 < b1
      · rw [if_pos h3, if_pos h3]
      · rw [if_neg h3, if_neg h3, if_pos (by omega)]
  · rw [if_neg h0, if_neg (fun h => h0 ((cmpO_zero a0 b0).1 h)), cmpO]
    by_cases h3 : a0 < b0
    · rw [if_pos h3, if_pos h3]
    · rw [if_neg h3, if_neg h3, if_pos (by omega)]
theorem refOf_ev (l : List Int) (hw : ∀ x ∈ l, 0 ≤ x) : Ev (fun k => scrivenerref06_Of.f k l) (ofB l) := by
  refine Ev.of (scrivenerref06_Of.mono l) (k := 1) ?_
  unfold scrivenerref06_Of.f ofB
  by_cases h : l.length = 3
  · rw [if_pos (by omega), if_pos (by omega)]
    have h1 : 0 ≤ rd l 1 := by
      rw [show rd l 1 = l[1] from rd_one (by omega)]
      exact hw _ (List.getElem_mem _)
    simp only [scrivenerref06_Of.j0, refMay_is, Option.bind_some]
    by_cases h2 : rd l 1 > 15
    · rw [decide_eq_true h2, if_pos rfl, if_neg (by omega)]
    · rw [decide_eq_false h2, if_neg (by decide), if_pos (by omega), if_pos (by omega), if_pos (by omega), if_pos (show l.length = 3 ∧ rd l 1 ≤ 15 by omega), wrap_small (by omega) (by omega)]
      by_cases hz : rd l 0 = 0 ∧ rd l 1 = 0 ∧ rd l 2 = 0
      · rw [if_pos (by simp [hz.1, hz.2.1, hz.2.2]), if_pos (.inl hz)]
      · rw [if_neg (by simpa using hz)]
        by_cases hm : mayB (rd l 0) (rd l 1) (rd l 2) = true
        · rw [if_pos hm, if_pos (.inr hm)]
        · rw [if_neg hm, if_neg (fun z => z.elim hz hm)]
  · rw [if_neg (by omega), if_neg (by omega)]
    simp only [scrivenerref06_Of.j0, if_true]
theorem BallotOrderP (x0 x1 : S27) (l2 : List Int) (g0 : ((Lit.int .u64 x0.f0).wf = true ∧ ((Lit.int .i64 x0.f1).wf = true ∧ (Lit.int .u64 x0.f2).wf = true))) (_ : ((Lit.int .u64 x1.f0).wf = true ∧ ((Lit.int .i64 x1.f1).wf = true ∧ (Lit.int .u64 x1.f2).wf = true))) (g2 : (l2.length ≤ maxLen ∧ ∀ x0 ∈ l2, (Lit.int .u64 x0).wf = true)) :
    ∃ k, scrivenerlaw06_BallotOrder.f k x0.f0 x0.f1 x0.f2 x1.f0 x1.f1 x1.f2 l2 = some true := by
  refine Ev.rounds ?_
  have aw : Ev (fun k => (scrivenerlaw06_awake.f k).bind fun t => some t) true := Ev.bind awake_ev (Ev.now _)
  have hw : ∀ x ∈ l2, 0 ≤ x := fun x hx => (wfu (g2.2 x hx)).1
  unfold scrivenerlaw06_BallotOrder.f
  by_cases h : (l2.length : Int) > 100
  · simp only [if_pos h]; exact aw
  · simp only [if_neg h, ballot_Puts.f, Option.bind_some, List.length_cons, List.length_nil, rd3, may_is, refMay_is, refCmp_is, beq_self_eq_true, if_true]
    simp only [show (((0 + 1 + 1 + 1 : Nat) : Int) = 3) = True from by simp, show ((0 : Int) < ((0 + 1 + 1 + 1 : Nat) : Int)) = True from by simp, show ((1 : Int) < ((0 + 1 + 1 + 1 : Nat) : Int)) = True from by simp, show ((2 : Int) < ((0 + 1 + 1 + 1 : Nat) : Int)) = True from by simp, if_true]
    refine Ev.bind (Of_ev l2 hw) (Ev.bind (refOf_ev l2 hw) ?_)
    refine Ev.bind (Cmp_ev _ _ _ _ _ _) ?_
    simp only [beq_self_eq_true, Bool.and_self, if_true]
    exact aw
end Go.Proofs.Ythaoliipnoimaaa.Bal
