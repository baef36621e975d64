/- The law BallotTotal, plainly: the order of ballots is total, and the next one is behind all. -/
import Derived.Test.YthaoliipnoimaaaOrd
import Derived.Test.YthaoliipnoimaaaXB7
namespace Go.Proofs.Ythaoliipnoimaaa.Bal
set_option linter.unusedVariables false
set_option linter.unusedSimpArgs false
open Go.RowKit Go.Proofs.YthaoliipnoimaaaW.PrintWords Go.Proofs.YthaoliipnoimaaaW.PrintLast Go.Proofs.YthaoliipnoimaaaW.PrintMore Go.Proofs.Ythaoliipnoimaaa.XB


theorem BallotTotalP (x0 x1 x2 : S27) (a3 a4 : Int) (g0 : ((Lit.int .u64 x0.f0).wf = true ∧ ((Lit.int .i64 x0.f1).wf = true ∧ (Lit.int .u64 x0.f2).wf = true))) (g1 : ((Lit.int .u64 x1.f0).wf = true ∧ ((Lit.int .i64 x1.f1).wf = true ∧ (Lit.int .u64 x1.f2).wf = true))) (g2 : ((Lit.int .u64 x2.f0).wf = true ∧ ((Lit.int .i64 x2.f1).wf = true ∧ (Lit.int .u64 x2.f2).wf = true))) (_ : (Lit.int .i64 a3).wf = true) (_ : (Lit.int .u64 a4).wf = true) :
    ∃ k, scrivenerlaw06_BallotTotal.f k x0.f0 x0.f1 x0.f2 x1.f0 x1.f1 x1.f2 x2.f0 x2.f1 x2.f2 a3 a4 = some true := by
  obtain ⟨p0, p1, p2⟩ := x0
  obtain ⟨q0, q1, q2⟩ := x1
  obtain ⟨r0, r1, r2⟩ := x2
  simp only at *
  refine Ev.rounds ?_
  have aw : Ev (fun k => (scrivenerlaw06_awake.f k).bind fun t => some t) true := Ev.bind awake_ev (Ev.now _)
  have hN := Next_ev a3 a4 [⟨p0, p1, p2⟩, ⟨q0, q1, q2⟩, ⟨r0, r1, r2⟩] (by simp) (by
    intro x hx
    simp only [List.mem_cons, List.not_mem_nil, or_false] at hx
    rcases hx with rfl | rfl | rfl
    · exact (wfu g0.1).1
    · exact (wfu g1.1).1
    · exact (wfu g2.1).1)
  have hM := maxR_from [⟨p0, p1, p2⟩, ⟨q0, q1, q2⟩, ⟨r0, r1, r2⟩] 0
  have hM0 := hM.1
  have hMp := hM.2.1 ⟨p0, p1, p2⟩ (by simp)
  have hMq := hM.2.1 ⟨q0, q1, q2⟩ (by simp)
  have hMr := hM.2.1 ⟨r0, r1, r2⟩ (by simp)
  change 0 ≤ maxR _ at hM0
  change p0 ≤ maxR _ at hMp
  change q0 ≤ maxR _ at hMq
  change r0 ≤ maxR _ at hMr
  clear hM
  generalize maxR [⟨p0, p1, p2⟩, ⟨q0, q1, q2⟩, ⟨r0, r1, r2⟩] = m at *
  have j1 : Ev (fun k => scrivenerlaw06_BallotTotal.j1 k a3 a4 false p0 p1 p2 q0 q1 q2 r0 r1 r2) true := by
    refine Ev.step (fun k => by simp only [scrivenerlaw06_BallotTotal.j1]; rw [if_neg (by decide)]) (Ev.bind hN ?_)
    unfold nextOf
    by_cases hl : lifeB a3 a4 = true
    · simp only [if_pos hl]
      by_cases hm : m ≥ 4611686018427387903
      · simp only [if_pos hm]
        refine Ev.congr (fun k => by rw [if_neg (by decide), if_pos (by decide)]) aw
      · simp only [if_neg hm]
        have hmay : mayB (m + 1) a3 a4 = true := by
          unfold mayB
          rw [hl, decide_eq_true (show m + 1 ≥ 1 by omega), decide_eq_true (show m + 1 ≤ 4611686018427387903 by omega)]; rfl
        simp only [may_is, Option.bind_some, hmay, if_true]
        refine Ev.bind (Cmp_ev _ _ _ _ _ _) ?_
        simp only [if_pos ((cmp6_lt p0 p1 p2 (m + 1) a3 a4).2 (.inl (by omega)))]
        refine Ev.bind (Cmp_ev _ _ _ _ _ _) ?_
        simp only [if_pos ((cmp6_lt q0 q1 q2 (m + 1) a3 a4).2 (.inl (by omega)))]
        refine Ev.bind (Cmp_ev _ _ _ _ _ _) ?_
        simp only [if_pos ((cmp6_lt r0 r1 r2 (m + 1) a3 a4).2 (.inl (by omega)))]
        exact aw
    · simp only [if_neg hl]
      refine Ev.congr (fun k => by rw [if_neg (by decide), if_pos (by decide)]) aw
  have j0 : Ev (fun k => scrivenerlaw06_BallotTotal.j0 k a3 a4 false p0 p1 p2 q0 q1 q2 r0 r1 r2) true := by
    refine Ev.step (f := fun k => if mayB p0 p1 p2 = true then ((ballot_Cmp.f k 0 0 0 p0 p1 p2).bind fun t => scrivenerlaw06_BallotTotal.j1 k a3 a4 (t != (-1)) p0 p1 p2 q0 q1 q2 r0 r1 r2) else scrivenerlaw06_BallotTotal.j1 k a3 a4 false p0 p1 p2 q0 q1 q2 r0 r1 r2) (fun k => by simp only [scrivenerlaw06_BallotTotal.j0, may_is, Option.bind_some]; rw [if_neg (by decide)]) ?_
    by_cases hp : mayB p0 p1 p2 = true
    · simp only [if_pos hp]
      refine Ev.bind (Cmp_ev _ _ _ _ _ _) ?_
      have h1 := (mayB_iff _ _ _).1 hp
      have h2 := (cmp6_lt 0 0 0 p0 p1 p2).2 (.inl (by omega))
      have h3 := cmp6_range 0 0 0 p0 p1 p2
      have h4 : cmp6 0 0 0 p0 p1 p2 = -1 := by omega
      rw [h4]
      exact j1
    · simp only [if_neg hp]; exact j1
  unfold scrivenerlaw06_BallotTotal.f
  refine Ev.bind (Cmp_ev _ _ _ _ _ _) (Ev.bind (Cmp_ev _ _ _ _ _ _) ?_)
  have e1 := cmp6_neg p0 p1 p2 q0 q1 q2
  have e2 := cmp6_range q0 q1 q2 p0 p1 p2
  simp only [if_pos (show cmp6 p0 p1 p2 q0 q1 q2 = wrap64 (-cmp6 q0 q1 q2 p0 p1 p2) by rw [wrap_small (by omega) (by omega)]; exact e1)]
  refine Ev.bind (Cmp_ev _ _ _ _ _ _) ?_
  have e3 : ((cmp6 p0 p1 p2 q0 q1 q2 == 0) != (p0 == q0 && (p1 == q1 && (p2 == q2)))) = false := by
    have := cmp6_zero p0 p1 p2 q0 q1 q2
    by_cases h : p0 = q0 ∧ p1 = q1 ∧ p2 = q2
    · rw [this.2 h]; obtain ⟨rfl, rfl, rfl⟩ := h; simp
    · have h' : ¬ cmp6 p0 p1 p2 q0 q1 q2 = 0 := fun e => h (this.1 e)
      have h2 : (p0 == q0 && (p1 == q1 && (p2 == q2))) = false := by
        simp
        intro a b c
        exact h ⟨a, b, c⟩
      rw [h2]
      simp [h']
  simp only [e3, Bool.false_eq_true, if_false]
  refine Ev.bind (Cmp_ev _ _ _ _ _ _) ?_
  by_cases h1 : cmp6 p0 p1 p2 q0 q1 q2 ≤ 0
  · simp only [if_pos h1]
    refine Ev.bind (Cmp_ev _ _ _ _ _ _) ?_
    by_cases h2 : cmp6 q0 q1 q2 r0 r1 r2 ≤ 0
    · simp only [if_pos h2]
      refine Ev.bind (Cmp_ev _ _ _ _ _ _) ?_
      have h3 : cmp6 p0 p1 p2 r0 r1 r2 ≤ 0 := by
        rw [cmp6_le] at *
        omega
      rw [decide_eq_false (by omega)]
      exact j0
    · simp only [if_neg h2]; exact j0
  · simp only [if_neg h1]; exact j0
end Go.Proofs.Ythaoliipnoimaaa.Bal
