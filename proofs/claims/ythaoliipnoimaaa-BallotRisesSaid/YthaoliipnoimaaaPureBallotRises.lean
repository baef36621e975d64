/- The law BallotRises, plainly: the ballots of one life rise. -/
import Derived.Test.YthaoliipnoimaaaOrd
import Derived.Test.YthaoliipnoimaaaXB8
namespace Go.Proofs.Ythaoliipnoimaaa.Bal
set_option linter.unusedVariables false
set_option linter.unusedSimpArgs false
open Go.RowKit Go.Proofs.YthaoliipnoimaaaW.PrintWords Go.Proofs.YthaoliipnoimaaaW.PrintLast Go.Proofs.YthaoliipnoimaaaW.PrintMore Go.Proofs.Ythaoliipnoimaaa.XB


theorem rises_from (a b : Int) (xs : List S27) (hl : xs.length < 4611686018427387904) (hp : ∀ x ∈ xs, 0 ≤ x.f0) (d : Nat) : ∀ (n : Nat) (p0 p1 p2 : Int), 0 ≤ p0 → n ≤ xs.length → xs.length - n = d →
    Ev (fun k => scrivenerlaw06_BallotRises.l0 k a b xs (n : Int) p0 p1 p2) true := by
  have aw : Ev (fun k => (scrivenerlaw06_awake.f k).bind fun t => some t) true := Ev.bind awake_ev (Ev.now _)
  have aj : Ev (fun k => (scrivenerlaw06_awake.f k).bind fun t => scrivenerlaw06_BallotRises.j1 k t) true :=
    Ev.bind awake_ev (Ev.step (f := fun _ => some true) (fun k => by simp only [scrivenerlaw06_BallotRises.j1]) (Ev.now _))
  induction d with
  | zero =>
    intro n p0 p1 p2 h0 h1 hd
    have : n = xs.length := by omega
    subst this
    refine Ev.step (fun k => ?_) aw
    simp only [scrivenerlaw06_BallotRises.l0]
    rw [if_neg (by omega)]
  | succ d ih =>
    intro n p0 p1 p2 h0 h1 hd
    have hn : n < xs.length := by omega
    have hr := rd_at hn
    have hx := hp xs[n] (List.getElem_mem hn)
    have hN := Next_ev a b [⟨p0, p1, p2⟩, ⟨xs[n].f0, xs[n].f1, xs[n].f2⟩] (by simp) (by
      intro x hx
      simp only [List.mem_cons, List.not_mem_nil, or_false] at hx
      rcases hx with rfl | rfl
      · exact h0
      · exact hp xs[n] (List.getElem_mem hn))
    have hM := maxR_from [⟨p0, p1, p2⟩, ⟨xs[n].f0, xs[n].f1, xs[n].f2⟩] 0
    have hM0 := hM.1
    have hMp := hM.2.1 ⟨p0, p1, p2⟩ (by simp)
    have hMq := hM.2.1 ⟨xs[n].f0, xs[n].f1, xs[n].f2⟩ (by simp)
    have hMe := hM.2.2
    change 0 ≤ maxR _ at hM0
    change p0 ≤ maxR _ at hMp
    change xs[n].f0 ≤ maxR _ at hMq
    change maxR _ = 0 ∨ ∃ x ∈ _, maxR _ = S27.f0 x at hMe
    have hMe' : maxR [⟨p0, p1, p2⟩, ⟨xs[n].f0, xs[n].f1, xs[n].f2⟩] = 0 ∨ maxR [⟨p0, p1, p2⟩, ⟨xs[n].f0, xs[n].f1, xs[n].f2⟩] = p0 ∨ maxR [⟨p0, p1, p2⟩, ⟨xs[n].f0, xs[n].f1, xs[n].f2⟩] = xs[n].f0 := by
      rcases hMe with h | ⟨x, hx, h⟩
      · exact .inl h
      · simp only [List.mem_cons, List.not_mem_nil, or_false] at hx
        rcases hx with rfl | rfl
        · exact .inr (.inl h)
        · exact .inr (.inr h)
    clear hMe hM
    generalize maxR [⟨p0, p1, p2⟩, ⟨xs[n].f0, xs[n].f1, xs[n].f2⟩] = m at *
    refine Ev.step (fun k => ?_) (Ev.bind hN (r := true) (f := fun k bt => (if bt.2.2.2 = 0 then ((ballot_Cmp.f k p0 p1 p2 bt.1 bt.2.1 bt.2.2.1).bind fun t200 => (if t200 ≥ 0 then (none) else ((ballot_Cmp.f k xs[n].f0 xs[n].f1 xs[n].f2 bt.1 bt.2.1 bt.2.2.1).bind fun t202 => (if t202 ≥ 0 then (none) else (if bt.2.1 = a then (if bt.2.2.1 = b then (if mayB bt.1 bt.2.1 bt.2.2.1 = true then (scrivenerlaw06_BallotRises.l0 k a b xs ((n + 1 : Nat) : Int) bt.1 bt.2.1 bt.2.2.1) else (some false)) else (none)) else (none)))))) else (if bt.2.2.2 = 1 then ((scrivenerlaw06_awake.f k).bind fun t196 => (scrivenerlaw06_BallotRises.j1 k t196)) else (if xs[n].f0 ≥ 4611686018427387903 then ((scrivenerlaw06_awake.f k).bind fun t198 => (scrivenerlaw06_BallotRises.j1 k t198)) else (if p0 ≥ 4611686018427387903 then ((scrivenerlaw06_awake.f k).bind fun t199 => (scrivenerlaw06_BallotRises.j1 k t199)) else (scrivenerlaw06_BallotRises.j1 k false)))))) ?_)
    · simp only [scrivenerlaw06_BallotRises.l0, may_is, Option.bind_some]
      rw [if_pos (by omega), if_pos (by omega), hr, wrap_nat (by omega)]
    · unfold nextOf
      by_cases hl : lifeB a b = true
      · simp only [if_pos hl]
        by_cases hm : m ≥ 4611686018427387903
        · simp only [if_pos hm]
          simp only [show ¬ ((3 : Int) = 0) by decide, show ¬ ((3 : Int) = 1) by decide, if_false]
          by_cases hq : xs[n].f0 ≥ 4611686018427387903
          · simp only [if_pos hq]; exact aj
          · simp only [if_neg hq, if_pos (show p0 ≥ 4611686018427387903 by omega)]; exact aj
        · simp only [if_neg hm]
          have hmay : mayB (m + 1) a b = true := by
            unfold mayB
            rw [hl, decide_eq_true (show m + 1 ≥ 1 by omega), decide_eq_true (show m + 1 ≤ 4611686018427387903 by omega)]; rfl
          simp only [hmay, if_true]
          have c1 := (cmp6_lt p0 p1 p2 (m + 1) a b).2 (.inl (by omega))
          have c2 := (cmp6_lt xs[n].f0 xs[n].f1 xs[n].f2 (m + 1) a b).2 (.inl (by omega))
          refine Ev.bind (Cmp_ev _ _ _ _ _ _) ?_
          simp only [if_neg (show ¬ cmp6 p0 p1 p2 (m + 1) a b ≥ 0 by omega)]
          refine Ev.bind (Cmp_ev _ _ _ _ _ _) ?_
          simp only [if_neg (show ¬ cmp6 xs[n].f0 xs[n].f1 xs[n].f2 (m + 1) a b ≥ 0 by omega)]
          exact ih (n + 1) _ _ _ (by omega) (by omega) (by omega)
      · simp only [if_neg hl]
        simp only [show ¬ ((1 : Int) = 0) by decide, if_false, if_true]
        exact aj
theorem BallotRisesP (a0 a1 : Int) (l2 : List S27) (_ : (Lit.int .i64 a0).wf = true) (_ : (Lit.int .u64 a1).wf = true) (g2 : l2.length ≤ maxLen ∧ ∀ x0 ∈ l2, ((Lit.int .u64 x0.f0).wf = true ∧ ((Lit.int .i64 x0.f1).wf = true ∧ (Lit.int .u64 x0.f2).wf = true))) : ∃ k, scrivenerlaw06_BallotRises.f k a0 a1 l2 = some true := by
  refine Ev.rounds ?_
  unfold scrivenerlaw06_BallotRises.f
  by_cases h : (l2.length : Int) > 300
  · simp only [if_pos h]
    exact Ev.bind awake_ev (Ev.now _)
  · simp only [if_neg h]
    exact rises_from a0 a1 l2 (by omega) (fun x hx => (wfu (g2.2 x hx).1).1) l2.length 0 0 0 0 (Int.le_refl _) (by omega) (by omega)
end Go.Proofs.Ythaoliipnoimaaa.Bal
