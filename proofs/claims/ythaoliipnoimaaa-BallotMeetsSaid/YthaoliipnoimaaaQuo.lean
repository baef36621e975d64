/- Plain laws: which rows of nodes are a majority, as the print tells Quorum. -/
import Derived.Test.YthaoliipnoimaaaBal
import Derived.Test.YthaoliipnoimaaaXB4
namespace Go.Proofs.Ythaoliipnoimaaa.Bal
set_option linter.unusedVariables false
set_option linter.unusedSimpArgs false
open Go.RowKit Go.Proofs.YthaoliipnoimaaaW.PrintWords Go.Proofs.YthaoliipnoimaaaW.PrintLast Go.Proofs.YthaoliipnoimaaaW.PrintMore Go.Proofs.Ythaoliipnoimaaa.XB

/-! Which nodes are a majority. -/
def majI (n : Int) : Int := if n < 1 then 0 else wrap64 (wrap64 (Int.tdiv n 2) + 1)
theorem maj_is (n : Int) : ballot_Majority.f n = some (majI n) := by unfold ballot_Majority.f majI; split <;> rfl
def inR (n x : Int) : Prop := 1 ≤ x ∧ x ≤ n
instance (n x : Int) : Decidable (inR n x) := by unfold inR; infer_instance
def addQ (n : Int) (acc : List Int) (x : Int) : List Int := if inR n x ∧ ¬ x ∈ acc then acc ++ [x] else acc
def accQ (n : Int) (l : List Int) : List Int := l.foldl (addQ n) []
theorem rdi {xs : List Int} {n : Nat} (h : n < xs.length) : rd xs (n : Int) = xs[n] := by
  simp [rd, List.getD_eq_getElem?_getD, List.getElem?_eq_getElem h]
theorem index_from (xs : List Int) (x : Int) (hl : xs.length < 4611686018427387904) (d : Nat) : ∀ n : Nat, n ≤ xs.length → xs.length - n = d →
    ∃ r, Ev (fun k => slices_Index_int_int.l0 k xs x (xs.length : Int) (n : Int)) r ∧ (r ≥ 0 ↔ x ∈ xs.drop n) := by
  induction d with
  | zero =>
    intro n h1 hd
    have : n = xs.length := by omega
    subst this
    refine ⟨-1, Ev.step (f := fun _ => some (-1)) (fun k => by simp only [slices_Index_int_int.l0]; rw [if_neg (by omega)]) (Ev.now _), by simp⟩
  | succ d ih =>
    intro n h1 hd
    have hn : n < xs.length := by omega
    have hw : wrap64 ((n : Int) + 1) = ((n + 1 : Nat) : Int) := wrap_nat (by omega)
    have hr := rdi hn
    rw [List.drop_eq_getElem_cons hn]
    by_cases hc : x = xs[n]
    · refine ⟨n, Ev.step (f := fun _ => some (n : Int)) (fun k => by simp only [slices_Index_int_int.l0]; rw [if_pos (by omega), if_pos (by omega), if_pos (by omega), hr, if_pos hc]) (Ev.now _), ?_⟩
      exact ⟨fun _ => by rw [hc]; exact List.mem_cons_self, fun _ => by omega⟩
    · obtain ⟨r, he, hi⟩ := ih (n + 1) (by omega) (by omega)
      refine ⟨r, Ev.step (fun k => ?_) he, ?_⟩
      · simp only [slices_Index_int_int.l0]
        rw [if_pos (by omega), if_pos (by omega), if_pos (by omega), hr, if_neg hc, hw]
      · rw [hi]; exact ⟨List.mem_cons_of_mem _, fun h => (List.mem_cons.1 h).resolve_left hc⟩
theorem contains_ev (xs : List Int) (x : Int) (hl : xs.length < 4611686018427387904) : Ev (fun k => slices_Contains_int_int.f k xs x) (decide (x ∈ xs)) := by
  obtain ⟨r, he, hi⟩ := index_from xs x hl xs.length 0 (by omega) (by omega)
  refine Ev.bind (f := fun _ t => some (decide (t ≥ 0))) (g := fun k => slices_Index_int_int.f k xs x) he ?_
  have : decide (x ∈ xs) = decide (r ≥ 0) := by
    rw [List.drop_zero] at hi
    exact decide_eq_decide.2 hi.symm
  rw [this]
  exact Ev.now _
def quorumB (n : Int) (acc : List Int) : Bool := if n ≥ 1 then decide ((acc.length : Int) ≥ majI n) else false
theorem addQ_le (n : Int) (acc : List Int) (x : Int) : (addQ n acc x).length ≤ acc.length + 1 := by unfold addQ; split <;> simp
theorem quorum_from (n : Int) (xs : List Int) (hl : xs.length < 17592186044416) (d : Nat) : ∀ (i : Nat) (acc : List Int), acc.length ≤ i → i ≤ xs.length → xs.length - i = d →
    Ev (fun k => ballot_Quorum.l0 k n acc xs (xs.length : Int) (i : Int)) (quorumB n ((xs.drop i).foldl (addQ n) acc)) := by
  induction d with
  | zero =>
    intro i acc ha h1 hd
    have : i = xs.length := by omega
    subst this
    refine Ev.step (f := fun _ => if n ≥ 1 then some (decide ((acc.length : Int) ≥ majI n)) else some false) (fun k => by simp only [ballot_Quorum.l0, maj_is, Option.bind_some]; rw [if_neg (by omega)]) ?_
    simp only [List.drop_length, List.foldl_nil, quorumB]
    by_cases hn : n ≥ 1
    · simp only [if_pos hn]; exact Ev.now _
    · simp only [if_neg hn]; exact Ev.now _
  | succ d ih =>
    intro i acc ha h1 hd
    have hn : i < xs.length := by omega
    have hw : wrap64 ((i : Int) + 1) = ((i + 1 : Nat) : Int) := wrap_nat (by omega)
    have hr := rdi hn
    rw [List.drop_eq_getElem_cons hn, List.foldl_cons]
    have hle := addQ_le n acc xs[i]
    have hi := ih (i + 1) (addQ n acc xs[i]) (by omega) (by omega) (by omega)
    by_cases h2 : xs[i] ≥ 1
    · by_cases h3 : xs[i] ≤ n
      · refine Ev.step (f := fun k => (slices_Contains_int_int.f k acc xs[i]).bind fun t => if t = true then ballot_Quorum.l0 k n acc xs (xs.length : Int) ((i + 1 : Nat) : Int) else ballot_Quorum.l0 k n (acc ++ [xs[i]]) xs (xs.length : Int) ((i + 1 : Nat) : Int)) (fun k => ?_) (Ev.bind (contains_ev acc _ (by omega)) ?_)
        · simp only [ballot_Quorum.l0]
          rw [if_pos (by omega), if_pos (by omega), if_pos (by omega), hr, if_pos h2, if_pos h3, hw]
          simp only [if_pos (show acc.length < 17592186044416 by omega)]
        · by_cases hm : xs[i] ∈ acc
          · refine Ev.congr (fun k => by rw [if_pos (decide_eq_true hm)]) ?_
            rw [addQ, if_neg (fun h => h.2 hm)] at hi ⊢
            exact hi
          · refine Ev.congr (fun k => by rw [if_neg (by simp [hm])]) ?_
            rw [addQ, if_pos ⟨⟨h2, h3⟩, hm⟩] at hi ⊢
            exact hi
      · refine Ev.step (fun k => ?_) hi
        simp only [ballot_Quorum.l0]
        rw [if_pos (by omega), if_pos (by omega), if_pos (by omega), hr, if_pos h2, if_neg h3, hw, addQ, if_neg (fun h => h3 h.1.2)]
    · refine Ev.step (fun k => ?_) hi
      simp only [ballot_Quorum.l0]
      rw [if_pos (by omega), if_pos (by omega), if_pos (by omega), hr, if_neg h2, hw, addQ, if_neg (fun h => h2 h.1.1)]
theorem quorum_ev (n : Int) (xs : List Int) (hl : xs.length < 17592186044416) : Ev (fun k => ballot_Quorum.f k n xs) (quorumB n (accQ n xs)) :=
  quorum_from n xs hl xs.length 0 [] (by simp) (by omega) (by omega)
theorem mem_accQ (n : Int) (l : List Int) : ∀ acc x, x ∈ l.foldl (addQ n) acc ↔ x ∈ acc ∨ (x ∈ l ∧ inR n x) := by
  induction l with
  | nil => intro acc x; simp
  | cons y l ih =>
    intro acc x
    rw [List.foldl_cons, ih]
    unfold addQ
    by_cases h : inR n y ∧ ¬ y ∈ acc
    · rw [if_pos h]
      simp only [List.mem_append, List.mem_cons, List.not_mem_nil, or_false]
      constructor
      · rintro ((h1 | rfl) | h2)
        · exact .inl h1
        · exact .inr ⟨.inl rfl, h.1⟩
        · exact .inr ⟨.inr h2.1, h2.2⟩
      · rintro (h1 | ⟨rfl | h1, h2⟩)
        · exact .inl (.inl h1)
        · exact .inl (.inr rfl)
        · exact .inr ⟨h1, h2⟩
    · rw [if_neg h]
      constructor
      · rintro (h1 | h1)
        · exact .inl h1
        · exact .inr ⟨List.mem_cons_of_mem _ h1.1, h1.2⟩
      · rintro (h1 | ⟨h1, h2⟩)
        · exact .inl h1
        · rcases List.mem_cons.1 h1 with rfl | h1
          · by_cases hm : x ∈ acc
            · exact .inl hm
            · exact absurd ⟨h2, hm⟩ h
          · exact .inr ⟨h1, h2⟩

end Go.Proofs.Ythaoliipnoimaaa.Bal
