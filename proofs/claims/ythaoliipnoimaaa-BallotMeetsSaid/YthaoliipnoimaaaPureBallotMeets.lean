/- The law BallotMeets, plainly: two majorities have a node in common. -/
import Derived.OpenShut
import Derived.Test.YthaoliipnoimaaaQuo
import Derived.Test.YthaoliipnoimaaaXB5
namespace Go.Proofs.Ythaoliipnoimaaa.Bal
set_option linter.unusedVariables false
set_option linter.unusedSimpArgs false
open Go.RowKit Go.Proofs.YthaoliipnoimaaaW.PrintWords Go.Proofs.YthaoliipnoimaaaW.PrintLast Go.Proofs.YthaoliipnoimaaaW.PrintMore Go.Proofs.Ythaoliipnoimaaa.XB


theorem nodup_bound : ∀ (m : Nat) (l : List Int), l.Nodup → (∀ x ∈ l, 1 ≤ x ∧ x ≤ (m : Int)) → l.length ≤ m := by
  intro m
  induction m with
  | zero =>
    intro l _ h
    cases l with
    | nil => simp
    | cons x l => have := h x List.mem_cons_self; omega
  | succ m ih =>
    intro l hn h
    by_cases hm : ((m + 1 : Nat) : Int) ∈ l
    · have h1 := ih (l.erase ((m + 1 : Nat) : Int)) (hn.erase _) (fun x hx => by
        have h2 := (hn.mem_erase_iff).1 hx
        have h3 := h x h2.2
        have h4 := h2.1
        omega)
      rw [List.length_erase_of_mem hm] at h1
      omega
    · have h1 := ih l hn (fun x hx => by
        have h3 := h x hx
        have h4 : x ≠ ((m + 1 : Nat) : Int) := fun e => hm (e ▸ hx)
        omega)
      omega
theorem accQ_nodup (n : Int) (l : List Int) : ∀ acc : List Int, acc.Nodup → (l.foldl (addQ n) acc).Nodup := by
  induction l with
  | nil => intro acc h; exact h
  | cons x l ih =>
    intro acc h
    rw [List.foldl_cons]
    refine ih _ ?_
    unfold addQ
    by_cases hc : inR n x ∧ ¬ x ∈ acc
    · rw [if_pos hc]
      rw [List.nodup_append]
      refine ⟨h, by simp, ?_⟩
      intro a ha b hb
      rw [List.mem_singleton] at hb
      subst hb
      rintro rfl
      exact hc.2 ha
    · rw [if_neg hc]; exact h
theorem accQ_mono (n : Int) (l : List Int) (x : Int) : (accQ n l).length ≤ (accQ n (l ++ [x])).length := by
  unfold accQ
  rw [List.foldl_append]
  show _ ≤ (addQ n _ x).length
  unfold addQ
  split <;> simp
theorem majI_half {n : Int} (h1 : 1 ≤ n) (h2 : n ≤ 9223372036854775807) : majI n = n / 2 + 1 := by
  unfold majI
  rw [if_neg (by omega), Int.tdiv_eq_ediv_of_nonneg (by omega)]
  unfold wrap64
  omega
theorem meets {n : Int} (h1 : 1 ≤ n) (h2 : n ≤ 9223372036854775807) (a c : List Int) (ha : ((accQ n a).length : Int) ≥ majI n) (hc : ((accQ n c).length : Int) ≥ majI n) :
    ∃ x, x ∈ a ∧ x ∈ c ∧ inR n x := by
  rw [majI_half h1 h2] at ha hc
  have hA : (accQ n a).Nodup := accQ_nodup n a [] (by simp)
  have hC : (accQ n c).Nodup := accQ_nodup n c [] (by simp)
  have mA : ∀ x, x ∈ accQ n a ↔ x ∈ a ∧ inR n x := fun x => by unfold accQ; rw [mem_accQ]; simp
  have mC : ∀ x, x ∈ accQ n c ↔ x ∈ c ∧ inR n x := fun x => by unfold accQ; rw [mem_accQ]; simp
  by_cases hx : ∃ x, x ∈ accQ n a ∧ x ∈ accQ n c
  · obtain ⟨x, hx1, hx2⟩ := hx
    exact ⟨x, ((mA x).1 hx1).1, ((mC x).1 hx2).1, ((mC x).1 hx2).2⟩
  · exfalso
    have hd : (accQ n a ++ accQ n c).Nodup := by
      rw [List.nodup_append]
      refine ⟨hA, hC, ?_⟩
      intro u hu v hv
      rintro rfl
      exact hx ⟨_, hu, hv⟩
    have hb := nodup_bound n.toNat _ hd (fun x hx => by
      rcases List.mem_append.1 hx with hx | hx
      · have := ((mA x).1 hx).2; unfold inR at this; omega
      · have := ((mC x).1 hx).2; unfold inR at this; omega)
    rw [List.length_append] at hb
    omega
theorem row_found (n : Int) (a c : List Int) (hla : a.length < 4611686018427387904) (hlc : c.length < 4611686018427387904) (i : Nat) (hi : i < a.length) (d : Nat) : ∀ j : Nat, j ≤ c.length → c.length - j = d →
    ((∃ x, x ∈ c.drop j ∧ a[i] = x ∧ inR n x) ∨ Ev (fun k => scrivenerlaw06_BallotMeets.l0 k n a c ((i + 1 : Nat) : Int)) true) →
    Ev (fun k => scrivenerlaw06_BallotMeets.l1 k n a c (i : Int) (j : Int)) true := by
  induction d with
  | zero =>
    intro j h1 hd h
    have : j = c.length := by omega
    subst this
    rcases h with ⟨x, hx, _⟩ | h
    · simp at hx
    · refine Ev.step (fun k => ?_) h
      simp only [scrivenerlaw06_BallotMeets.l1]
      rw [if_neg (by omega), wrap_nat (by omega)]
  | succ d ih =>
    intro j h1 hd h
    have hj : j < c.length := by omega
    have ra := rdi hi
    have rc := rdi hj
    have d1 : j + 1 ≤ c.length := hj
    have d2 : c.length - (j + 1) = d := by clear h; omega
    by_cases hm : a[i] = c[j] ∧ inR n a[i]
    · refine Ev.step (f := fun k => (scrivenerlaw06_awake.f k).bind fun t => some t) (fun k => ?_) (Ev.bind awake_ev (Ev.now _))
      simp only [scrivenerlaw06_BallotMeets.l1]
      rw [if_pos (by omega), if_pos (by omega), if_pos (by omega), if_pos (by omega), ra, rc, if_pos hm.1, if_pos hm.2.1, if_pos hm.2.2]
    · have h' : (∃ x, x ∈ c.drop (j + 1) ∧ a[i] = x ∧ inR n x) ∨ Ev (fun k => scrivenerlaw06_BallotMeets.l0 k n a c ((i + 1 : Nat) : Int)) true := by
        rcases h with ⟨x, hx, he, hr⟩ | h
        · rw [List.drop_eq_getElem_cons hj] at hx
          rcases List.mem_cons.1 hx with rfl | hx
          · exact absurd ⟨he, he ▸ hr⟩ hm
          · exact .inl ⟨x, hx, he, hr⟩
        · exact .inr h
      refine Ev.step (fun k => ?_) (ih (j + 1) d1 d2 h')
      simp only [scrivenerlaw06_BallotMeets.l1]
      rw [if_pos (by omega), if_pos (by omega), if_pos (by omega), if_pos (by omega), ra, rc, wrap_nat (show j < _ by omega)]
      by_cases e1 : a[i] = c[j]
      · rw [if_pos e1]
        by_cases e2 : a[i] ≥ 1
        · rw [if_pos e2, if_neg (fun e3 => hm ⟨e1, e2, e3⟩)]
        · rw [if_neg e2]
      · rw [if_neg e1]
theorem found (n : Int) (a c : List Int) (hla : a.length < 4611686018427387904) (hlc : c.length < 4611686018427387904) (d : Nat) : ∀ i : Nat, i ≤ a.length → a.length - i = d →
    (∃ x, x ∈ a.drop i ∧ x ∈ c ∧ inR n x) → Ev (fun k => scrivenerlaw06_BallotMeets.l0 k n a c (i : Int)) true := by
  induction d with
  | zero =>
    intro i h1 hd ⟨x, hx, _⟩
    have : i = a.length := by omega
    subst this
    simp at hx
  | succ d ih =>
    intro i h1 hd ⟨x, hx, hc, hr⟩
    have hi : i < a.length := by omega
    refine Ev.step (f := fun k => scrivenerlaw06_BallotMeets.l1 k n a c (i : Int) ((0 : Nat) : Int)) (fun k => ?_) (row_found n a c hla hlc i hi c.length 0 (by omega) (by omega) ?_)
    · simp only [scrivenerlaw06_BallotMeets.l0]
      rw [if_pos (by omega)]
      rfl
    · rw [List.drop_eq_getElem_cons hi] at hx
      rcases List.mem_cons.1 hx with rfl | hx
      · exact .inl ⟨_, by simpa using hc, rfl, hr⟩
      · exact .inr (ih (i + 1) (by omega) (by omega) ⟨x, hx, hc, hr⟩)
theorem BallotMeetsP (a0 : Int) (l1 l2 : List Int) (a3 : Int) (g0 : (Lit.int .i64 a0).wf = true) (_ : l1.length ≤ maxLen ∧ ∀ x0 ∈ l1, (Lit.int .i64 x0).wf = true) (_ : l2.length ≤ maxLen ∧ ∀ x0 ∈ l2, (Lit.int .i64 x0).wf = true) (_ : (Lit.int .i64 a3).wf = true) : ∃ k, scrivenerlaw06_BallotMeets.f k a0 l1 l2 a3 = some true := by
  refine Ev.rounds ?_
  have aw : Ev (fun k => (scrivenerlaw06_awake.f k).bind fun t => some t) true := Ev.bind awake_ev (Ev.now _)
  have big : Ev (fun k => scrivenerlaw06_BallotMeets.j0 k a0 l1 l2 a3 true) true :=
    Ev.step (fun k => by simp only [scrivenerlaw06_BallotMeets.j0, if_true]) aw
  unfold scrivenerlaw06_BallotMeets.f
  by_cases h1 : (l1.length : Int) > 100
  · simp only [if_pos h1]; exact big
  · simp only [if_neg h1]
    by_cases h2 : (l2.length : Int) > 100
    · simp only [decide_eq_true h2]; exact big
    · simp only [decide_eq_false h2]
      have hA := quorum_ev a0 l1 (by omega)
      have hB := quorum_ev a0 (l1 ++ [a3]) (by simp; omega)
      have hC := quorum_ev a0 l2 (by omega)
      refine Ev.step (f := fun k => (ballot_Quorum.f k a0 l1).bind fun t => if t = true then ((ballot_Quorum.f k a0 (l1 ++ [a3])).bind fun t => if t = true then ((ballot_Quorum.f k a0 l2).bind fun t => if t = true then scrivenerlaw06_BallotMeets.l0 k a0 l1 l2 0 else (scrivenerlaw06_awake.f k).bind fun t => some t) else some false) else (scrivenerlaw06_awake.f k).bind fun t => some t) (fun k => ?_) (Ev.bind hA ?_)
      · simp only [scrivenerlaw06_BallotMeets.j0, Option.bind_some, List.nil_append, List.length_nil]
        rw [if_neg (by decide)]
        simp only [if_pos (show 0 + l1.length < 17592186044416 by omega), if_pos (show l1.length < 17592186044416 by omega)]
      · by_cases qa : quorumB a0 (accQ a0 l1) = true
        · simp only [if_pos qa]
          have hn : a0 ≥ 1 := by
            unfold quorumB at qa
            by_cases hn : a0 ≥ 1
            · exact hn
            · rw [if_neg hn] at qa; cases qa
          have la : ((accQ a0 l1).length : Int) ≥ majI a0 := by
            unfold quorumB at qa
            rw [if_pos hn] at qa
            exact of_decide_eq_true qa
          have qb : quorumB a0 (accQ a0 (l1 ++ [a3])) = true := by
            unfold quorumB
            rw [if_pos hn]
            have := accQ_mono a0 l1 a3
            exact decide_eq_true (by omega)
          refine Ev.bind hB ?_
          simp only [if_pos qb]
          refine Ev.bind hC ?_
          by_cases qc : quorumB a0 (accQ a0 l2) = true
          · simp only [if_pos qc]
            have lc : ((accQ a0 l2).length : Int) ≥ majI a0 := by
              unfold quorumB at qc
              rw [if_pos hn] at qc
              exact of_decide_eq_true qc
            obtain ⟨x, hx, hy, hr⟩ := meets hn (bounds_i64 g0).2 l1 l2 la lc
            exact found a0 l1 l2 (by omega) (by omega) l1.length 0 (by omega) (by omega) ⟨x, by simpa using hx, hy, hr⟩
          · simp only [if_neg qc]; exact aw
        · simp only [if_neg qa]; exact aw
end Go.Proofs.Ythaoliipnoimaaa.Bal
