/- The law BallotBack, plainly: the ballot of a ballot's numbers is that one. -/
import Derived.Test.YthaoliipnoimaaaThree
import Derived.Test.YthaoliipnoimaaaXB12
namespace Go.Proofs.Ythaoliipnoimaaa.Bal
set_option linter.unusedVariables false
set_option linter.unusedSimpArgs false
open Go.RowKit Go.Proofs.YthaoliipnoimaaaW.PrintWords Go.Proofs.YthaoliipnoimaaaW.PrintLast Go.Proofs.YthaoliipnoimaaaW.PrintMore Go.Proofs.Ythaoliipnoimaaa.XB


theorem ofB_puts {a b c : Int} (h : mayB a b c = true ∨ (a = 0 ∧ b = 0 ∧ c = 0)) (hb : b ≤ 9223372036854775807) : ofB [a, IntKind.u64.wrap (mx b 0), c] = (a, b, c, true) := by
  have hm := mayB_iff a b c
  have hb0 : 0 ≤ b ∧ b ≤ 15 := by
    rcases h with h | h
    · have := hm.1 h; omega
    · omega
  rw [mx_u b hb, if_neg (by omega)]
  unfold ofB
  rw [(rd3 a b c).1, (rd3 a b c).2.1, (rd3 a b c).2.2, if_pos ⟨rfl, hb0.2⟩, if_pos]
  rcases h with h | h
  · exact .inr h
  · exact .inl h
theorem back_ev (l : List Int) (hw : ∀ x ∈ l, 0 ≤ x) : Ev (fun k => scrivenerlaw06_BallotBack.j0 k l false) true := by
  have aw : Ev (fun k => (scrivenerlaw06_awake.f k).bind fun t => some t) true := Ev.bind awake_ev (Ev.now _)
  refine Ev.step (fun k => by simp only [scrivenerlaw06_BallotBack.j0]; rw [if_neg (by decide)]) (Ev.bind (Of_ev l hw) ?_)
  unfold ofB
  by_cases h : l.length = 3 ∧ rd l 1 ≤ 15
  · have h1 : 0 ≤ rd l 1 := by
      rw [show rd l 1 = l[1] from rd_one (by omega)]
      exact hw _ (List.getElem_mem _)
    simp only [if_pos h]
    by_cases hc : (rd l 0 = 0 ∧ rd l 1 = 0 ∧ rd l 2 = 0) ∨ mayB (rd l 0) (rd l 1) (rd l 2) = true
    · simp only [if_pos hc, if_true, ballot_Puts.f, Option.bind_some, List.length_cons, List.length_nil, rd3]
      have e := mx_u (rd l 1) (by omega)
      rw [if_neg (show ¬ rd l 1 < 0 by omega)] at e
      simp only [e, h.1, show (((0 + 1 + 1 + 1 : Nat) : Int) = 3) = True from by simp, show ((0 : Int) < ((0 + 1 + 1 + 1 : Nat) : Int)) = True from by simp, show ((1 : Int) < ((0 + 1 + 1 + 1 : Nat) : Int)) = True from by simp, show ((2 : Int) < ((0 + 1 + 1 + 1 : Nat) : Int)) = True from by simp, show (((3 : Nat) : Int) = 3) = True from by simp, show ((0 : Int) < ((3 : Nat) : Int)) = True from by simp, show ((1 : Int) < ((3 : Nat) : Int)) = True from by simp, show ((2 : Int) < ((3 : Nat) : Int)) = True from by simp, if_true]
      exact aw
    · simp only [if_neg hc]
      refine Ev.congr (fun k => by rw [if_neg (by decide), if_pos (by decide)]) aw
  · simp only [if_neg h]
    refine Ev.congr (fun k => by rw [if_neg (by decide), if_pos (by decide)]) aw
theorem BallotBackP (x0 : S27) (l1 : List Int) (g0 : ((Lit.int .u64 x0.f0).wf = true ∧ ((Lit.int .i64 x0.f1).wf = true ∧ (Lit.int .u64 x0.f2).wf = true))) (g1 : (l1.length ≤ maxLen ∧ ∀ x0 ∈ l1, (Lit.int .u64 x0).wf = true)) :
    ∃ k, scrivenerlaw06_BallotBack.f k x0.f0 x0.f1 x0.f2 l1 = some true := by
  obtain ⟨a, b, c⟩ := x0
  simp only at *
  refine Ev.rounds ?_
  have hw : ∀ x ∈ l1, 0 ≤ x := fun x hx => (wfu (g1.2 x hx)).1
  have hb := back_ev l1 hw
  have hp : ∀ x ∈ [a, IntKind.u64.wrap (mx b 0), c], 0 ≤ x := by
    intro x hx
    simp only [List.mem_cons, List.not_mem_nil, or_false] at hx
    rcases hx with rfl | rfl | rfl
    · exact (wfu g0.1).1
    · rw [mx_u b (wfi g0.2.1).2]; split <;> omega
    · exact (wfu g0.2.2).1
  unfold scrivenerlaw06_BallotBack.f
  by_cases h : (l1.length : Int) > 100
  · simp only [if_pos h]; exact Ev.bind awake_ev (Ev.now _)
  · simp only [if_neg h, ballot_Puts.f, Option.bind_some, may_is]
    refine Ev.bind (Of_ev _ hp) ?_
    by_cases hm : mayB a b c = true
    · simp only [if_pos hm, ofB_puts (.inl hm) (wfi g0.2.1).2, if_true, beq_self_eq_true, Bool.not_true, Bool.or_false]
      exact hb
    · simp only [if_neg hm]
      by_cases hz : a = 0 ∧ b = 0 ∧ c = 0
      · have hz' : (a == 0 && (b == 0 && (c == 0))) = true := by simp [hz.1, hz.2.1, hz.2.2]
        simp only [if_pos hz', ofB_puts (.inr hz) (wfi g0.2.1).2, if_true, beq_self_eq_true, Bool.not_true, Bool.or_false]
        exact hb
      · have hz' : ¬ (a == 0 && (b == 0 && (c == 0))) = true := by simpa using hz
        simp only [if_neg hz']
        exact hb
end Go.Proofs.Ythaoliipnoimaaa.Bal
