/- The law BallotNext, plainly: the next ballot and the majority are the document's. -/
import Derived.OpenShut
import Derived.Test.YthaoliipnoimaaaQuo
import Derived.Test.YthaoliipnoimaaaXB6
namespace Go.Proofs.Ythaoliipnoimaaa.Bal
open Go.RowKit Go.Proofs.YthaoliipnoimaaaW.PrintWords Go.Proofs.YthaoliipnoimaaaW.PrintLast Go.Proofs.YthaoliipnoimaaaW.PrintMore Go.Proofs.Ythaoliipnoimaaa.XB

theorem refLife_is (a b : Int) : scrivenerref06_Life.f a b = some (lifeB a b) := by
  have e : scrivenerref06_Life.f a b = ballot_life.f a b := by
    unfold scrivenerref06_Life.f ballot_life.f
    by_cases h1 : a > 0
    · have h1' : a ≥ 1 := h1
      by_cases h3 : b > 0
      · have h3' : b ≥ 1 := h3
        simp [h1, h1', h3, h3']
      · have h3' : ¬ b ≥ 1 := h3
        simp [h1, h1', h3, h3']
    · have h1' : ¬ a ≥ 1 := h1
      simp [h1, h1']
  rw [e, life_is]
theorem refNext_from (a b : Int) (xs : List S27) (hl : xs.length < 4611686018427387904) (d : Nat) : ∀ (n : Nat) (m : Int), 0 ≤ m → n ≤ xs.length → xs.length - n = d →
    Ev (fun k => scrivenerref06_Next.l0 k a b xs m (n : Int)) (if (xs.drop n).foldl (fun m x => if x.f0 > m then x.f0 else m) m ≥ 4611686018427387903 then (0, 0, 0, 3) else ((xs.drop n).foldl (fun m x => if x.f0 > m then x.f0 else m) m + 1, a, b, 0)) := by
  induction d with
  | zero =>
    intro n m h0 h1 hd
    have : n = xs.length := by omega
    subst this
    refine Ev.step (f := fun _ => if m ≥ 4611686018427387903 then some (0, 0, 0, 3) else some (IntKind.u64.wrap (m + 1), a, b, 0)) (fun k => by simp only [scrivenerref06_Next.l0]; rw [if_neg (by omega)]) ?_
    simp only [List.drop_length, List.foldl_nil]
    by_cases hm : m ≥ 4611686018427387903
    · simp only [if_pos hm]; exact Ev.now _
    · simp only [if_neg hm, u64_succ h0 hm]; exact Ev.now _
  | succ d ih =>
    intro n m h0 h1 hd
    have hn : n < xs.length := by omega
    have hw : wrap64 ((n : Int) + 1) = ((n + 1 : Nat) : Int) := wrap_nat (by omega)
    have hr := rd_at hn
    rw [List.drop_eq_getElem_cons hn, List.foldl_cons]
    have hi := ih (n + 1) (if xs[n].f0 > m then xs[n].f0 else m) (by split <;> omega) (by omega) (by omega)
    refine Ev.step (fun k => ?_) hi
    simp only [scrivenerref06_Next.l0]
    rw [if_pos (by omega), if_pos (by omega), hr, hw]
    by_cases hc : xs[n].f0 > m
    · rw [if_pos hc, if_pos hc]
    · rw [if_neg hc, if_neg hc]
theorem refNext_ev (a b : Int) (xs : List S27) (hl : xs.length < 4611686018427387904) : Ev (fun k => scrivenerref06_Next.f k a b xs) (nextOf a b (maxR xs)) := by
  unfold scrivenerref06_Next.f nextOf
  simp only [refLife_is, Option.bind_some]
  by_cases h : lifeB a b = true
  · simp only [if_pos h]
    have := refNext_from a b xs hl xs.length 0 0 (Int.le_refl _) (by omega) (by omega)
    exact this
  · simp only [if_neg h]; exact Ev.now _

theorem refMaj_is (n : Int) : scrivenerref06_Majority.f n = some (majI n) := by unfold scrivenerref06_Majority.f majI; split <;> rfl
/-! The document's count. -/
def cntQ (n : Int) (xs : List Int) : Nat → Int
  | 0 => 0
  | i + 1 => cntQ n xs i + if inR n (xs.getD i 0) ∧ ¬ xs.getD i 0 ∈ xs.take i then 1 else 0
theorem cnt_acc (n : Int) (xs : List Int) : ∀ i, i ≤ xs.length → cntQ n xs i = ((accQ n (xs.take i)).length : Int) := by
  intro i
  induction i with
  | zero => intro _; rfl
  | succ i ih =>
    intro hi
    have hlt : i < xs.length := by omega
    rw [cntQ, ih (by omega), List.take_succ_eq_append_getElem hlt]
    have hg : xs.getD i 0 = xs[i] := by simp [List.getD_eq_getElem?_getD, List.getElem?_eq_getElem hlt]
    rw [hg]
    have hf : accQ n (xs.take i ++ [xs[i]]) = addQ n (accQ n (xs.take i)) xs[i] := by unfold accQ; rw [List.foldl_append]; rfl
    rw [hf, addQ]
    have hm : xs[i] ∈ accQ n (xs.take i) ↔ xs[i] ∈ xs.take i ∧ inR n xs[i] := by
      unfold accQ; rw [mem_accQ]; simp
    by_cases hr : inR n xs[i]
    · by_cases hx : xs[i] ∈ xs.take i
      · rw [if_neg (fun h => h.2 hx), if_neg (fun h => h.2 (hm.2 ⟨hx, hr⟩))]; omega
      · rw [if_pos ⟨hr, hx⟩, if_pos ⟨hr, fun h => hx (hm.1 h).1⟩]; simp
    · rw [if_neg (fun h => hr h.1), if_neg (fun h => hr h.1)]; omega
theorem first_from (n : Int) (xs : List Int) (hl : xs.length < 4611686018427387904) (c : Int) (i : Nat) (hi : i < xs.length) {r : Bool} (d : Nat) : ∀ (j : Nat) (b : Bool), j ≤ i → i - j = d →
    Ev (fun k => if (b && decide (¬ xs[i] ∈ (xs.take i).drop j)) = true then scrivenerref06_Quorum.l0 k n xs (wrap64 (c + 1)) ((i + 1 : Nat) : Int) else scrivenerref06_Quorum.l0 k n xs c ((i + 1 : Nat) : Int)) r →
    Ev (fun k => scrivenerref06_Quorum.l1 k n xs c (i : Int) b (j : Int)) r := by
  induction d with
  | zero =>
    intro j b h1 hd he
    have : j = i := by omega
    subst this
    have hw : wrap64 ((j : Int) + 1) = ((j + 1 : Nat) : Int) := wrap_nat (by omega)
    refine Ev.step (fun k => ?_) he
    simp only [scrivenerref06_Quorum.l1]
    rw [if_neg (by omega), hw]
    have : (xs.take j).drop j = [] := by simp
    simp [this]
  | succ d ih =>
    intro j b h1 hd he
    have hj : j < i := by omega
    have hw : wrap64 ((j : Int) + 1) = ((j + 1 : Nat) : Int) := wrap_nat (by omega)
    have hd1 : (xs.take i).drop j = xs[j]'(by omega) :: (xs.take i).drop (j + 1) := by
      rw [List.drop_eq_getElem_cons (by simp; omega)]
      simp
    cases b with
    | true =>
      refine Ev.step (fun k => ?_) (ih (j + 1) (xs[j]'(by omega) != xs[i]) (by omega) (by omega) ?_)
      · simp only [scrivenerref06_Quorum.l1]
        rw [if_pos (by omega), if_pos trivial, if_pos (by omega), if_pos (by omega), if_pos (by omega), if_pos (by omega), rdi (show j < xs.length by omega), rdi hi, hw]
      · refine Ev.congr (fun k => ?_) he
        rw [hd1]
        have : ((xs[j]'(by omega) != xs[i]) && decide (¬ xs[i] ∈ (xs.take i).drop (j + 1))) = (true && decide (¬ xs[i] ∈ xs[j]'(by omega) :: (xs.take i).drop (j + 1))) := by
          by_cases hq : xs[i] = xs[j]'(by omega)
          · simp [hq]
          · simp [hq, Ne.symm hq]
        rw [this]
    | false =>
      refine Ev.step (fun k => ?_) (ih (j + 1) false (by omega) (by omega) ?_)
      · simp only [scrivenerref06_Quorum.l1]
        rw [if_pos (by omega), if_neg (by decide), hw]
      · refine Ev.congr (fun k => ?_) he
        simp
theorem cnt_le (n : Int) (xs : List Int) : ∀ i, 0 ≤ cntQ n xs i ∧ cntQ n xs i ≤ i := by
  intro i
  induction i with
  | zero => exact ⟨Int.le_refl _, Int.le_refl _⟩
  | succ i ih => rw [cntQ]; split <;> omega
theorem refQuorum_from (n : Int) (xs : List Int) (hl : xs.length < 4611686018427387904) (d : Nat) : ∀ (i : Nat), i ≤ xs.length → xs.length - i = d →
    Ev (fun k => scrivenerref06_Quorum.l0 k n xs (cntQ n xs i) (i : Int)) (decide (cntQ n xs xs.length ≥ majI n)) := by
  induction d with
  | zero =>
    intro i h1 hd
    have : i = xs.length := by omega
    subst this
    exact Ev.step (f := fun _ => some (decide (cntQ n xs xs.length ≥ majI n))) (fun k => by simp only [scrivenerref06_Quorum.l0, refMaj_is, Option.bind_some]; rw [if_neg (by omega)]) (Ev.now _)
  | succ d ih =>
    intro i h1 hd
    have hn : i < xs.length := by omega
    have hr := rdi hn
    have hg : xs.getD i 0 = xs[i] := by simp [List.getD_eq_getElem?_getD, List.getElem?_eq_getElem hn]
    have hi := ih (i + 1) (by omega) (by omega)
    have hc := cnt_le n xs i
    have key : Ev (fun k => scrivenerref06_Quorum.l1 k n xs (cntQ n xs i) (i : Int) (decide (inR n xs[i])) ((0 : Nat) : Int)) (decide (cntQ n xs xs.length ≥ majI n)) := by
      refine first_from n xs hl _ i hn i 0 _ (by omega) (by omega) ?_
      rw [cntQ, hg] at hi
      by_cases h : inR n xs[i] ∧ ¬ xs[i] ∈ xs.take i
      · rw [if_pos h] at hi
        refine Ev.congr (fun k => ?_) hi
        rw [if_pos (by simpa using h)]
        congr 1
        unfold wrap64; omega
      · rw [if_neg h, Int.add_zero] at hi
        refine Ev.congr (fun k => ?_) hi
        rw [if_neg (by simpa using h)]
    refine Ev.step (f := fun k => scrivenerref06_Quorum.j1 k n xs (cntQ n xs i) (i : Int) (decide (inR n xs[i]))) (fun k => ?_) (Ev.step (fun k => by simp only [scrivenerref06_Quorum.j1]; rfl) key)
    simp only [scrivenerref06_Quorum.l0]
    rw [if_pos (by omega), if_pos (by omega), hr]
    by_cases h2 : xs[i] ≥ 1
    · rw [if_pos h2]
      congr 1
      have : inR n xs[i] ↔ xs[i] ≤ n := ⟨fun h => h.2, fun h => ⟨h2, h⟩⟩
      simp [this]
    · rw [if_neg h2]
      congr 1
      simp [inR, h2]
theorem refQuorum_ev (n : Int) (xs : List Int) (hl : xs.length < 4611686018427387904) : Ev (fun k => scrivenerref06_Quorum.f k n xs) (quorumB n (accQ n xs)) := by
  unfold scrivenerref06_Quorum.f quorumB
  by_cases h : n < 1
  · simp only [if_pos h, if_neg (show ¬ n ≥ 1 by omega)]; exact Ev.now _
  · simp only [if_neg h, if_pos (show n ≥ 1 by omega)]
    have := refQuorum_from n xs hl xs.length 0 (by omega) (by omega)
    rw [cnt_acc n xs xs.length (by omega), List.take_length] at this
    exact this

/-- The law BallotNext, on numbers and lists. -/
theorem BallotNext (a0 a1 : Int) (l2 : List S27) (a3 : Int) (l4 : List Int) (hp : ∀ x ∈ l2, 0 ≤ x.f0) : ∃ k, scrivenerlaw06_BallotNext.f k a0 a1 l2 a3 l4 = some true := by
  refine Ev.rounds ?_
  have big : Ev (fun k => scrivenerlaw06_BallotNext.j0 k a0 a1 l2 a3 l4 true) true :=
    Ev.step (fun k => by simp only [scrivenerlaw06_BallotNext.j0, if_true, Option.bind_some]) (Ev.bind awake_ev (Ev.now _))
  unfold scrivenerlaw06_BallotNext.f
  by_cases h1 : (l2.length : Int) > 1000
  · simp only [if_pos h1]; exact big
  · simp only [if_neg h1]
    by_cases h2 : (l4.length : Int) > 300
    · simp only [decide_eq_true h2]; exact big
    · simp only [decide_eq_false h2]
      have hN := Next_ev a0 a1 l2 (by omega) hp
      have hR := refNext_ev a0 a1 l2 (by omega)
      have hQ := quorum_ev a3 l4 (by omega)
      have hS := refQuorum_ev a3 l4 (by omega)
      refine Ev.step (f := fun k => (ballot_Next.f k a0 a1 l2).bind fun x => (scrivenerref06_Next.f k a0 a1 l2).bind fun y => if (x.1 == y.1 && (x.2.1 == y.2.1 && (x.2.2.1 == y.2.2.1))) = true then (if x.2.2.2 = y.2.2.2 then ((ballot_Quorum.f k a3 l4).bind fun t => (scrivenerref06_Quorum.f k a3 l4).bind fun u => if (t == u) = true then (scrivenerlaw06_awake.f k).bind fun t => some t else none) else none) else none) (fun k => ?_) ?_
      · simp only [scrivenerlaw06_BallotNext.j0, Option.bind_some, List.nil_append, List.length_nil, maj_is, refMaj_is]
        rw [if_neg (by decide), if_pos (by omega)]
        simp only [if_true, if_pos (show 0 + l4.length < 17592186044416 by omega)]
      · refine Ev.bind hN (Ev.bind hR ?_)
        refine Ev.congr (fun k => by rw [if_pos (by simp), if_pos rfl]) ?_
        refine Ev.bind hQ (Ev.bind hS ?_)
        refine Ev.congr (fun k => by rw [if_pos (by simp)]) ?_
        exact Ev.bind awake_ev (Ev.now _)
theorem wf64 {x : Int} (h : (Lit.int .u64 x).wf = true) : 0 ≤ x := (bounds_u64 h).1
theorem BallotNextP (a0 a1 : Int) (l2 : List S27) (a3 : Int) (l4 : List Int) (_ : (Lit.int .i64 a0).wf = true) (_ : (Lit.int .u64 a1).wf = true) (g2 : l2.length ≤ maxLen ∧ ∀ x0 ∈ l2, ((Lit.int .u64 x0.f0).wf = true ∧ ((Lit.int .i64 x0.f1).wf = true ∧ (Lit.int .u64 x0.f2).wf = true))) (_ : (Lit.int .i64 a3).wf = true) (_ : l4.length ≤ maxLen ∧ ∀ x0 ∈ l4, (Lit.int .i64 x0).wf = true) : ∃ k, scrivenerlaw06_BallotNext.f k a0 a1 l2 a3 l4 = some true :=
  BallotNext a0 a1 l2 a3 l4 (fun x hx => wf64 (g2.2 x hx).1)
end Go.Proofs.Ythaoliipnoimaaa.Bal
