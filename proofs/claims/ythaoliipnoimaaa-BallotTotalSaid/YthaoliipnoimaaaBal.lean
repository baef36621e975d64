import Derived.Test.YthaoliipnoimaaaXB3
import Derived.Test.YthaoliipnoimaaaXB4
namespace Go.Proofs.Ythaoliipnoimaaa.Bal
set_option linter.unusedVariables false
set_option linter.unusedSimpArgs false
open Go.RowKit Go.Proofs.YthaoliipnoimaaaW.PrintWords Go.Proofs.YthaoliipnoimaaaW.PrintLast Go.Proofs.YthaoliipnoimaaaW.PrintMore Go.Proofs.Ythaoliipnoimaaa.XB

/-! Plain laws on the functions of package ballot, as the print tells them. -/

theorem wrap_nat {n : Nat} (h : n < 4611686018427387904) : wrap64 ((n : Int) + 1) = ((n + 1 : Nat) : Int) := by
  unfold wrap64; omega

/-- The order of two numbers. -/
def cmpO (a b : Int) : Int := if a < b then -1 else if a > b then 1 else 0
theorem cmpO_u (a b : Int) : cmp_Compare_uint64.f a b = some (cmpO a b) := by
  simp [cmp_Compare_uint64.f, cmp_isNaN_uint64.f, cmpO]
  split
  · rfl
  · split <;> rfl
theorem cmpO_i (a b : Int) : cmp_Compare_int.f a b = some (cmpO a b) := by
  simp [cmp_Compare_int.f, cmp_isNaN_int.f, cmpO]
  split
  · rfl
  · split <;> rfl
/-- The first of three that is not 0. -/
def or3 (a b c : Int) : Int := if a = 0 then (if b = 0 then c else b) else a
theorem or3_of (a b c : Int) : cmp_Or_int.f 5 [a, b, c] = some (or3 a b c) := by
  by_cases h1 : a = 0 <;> by_cases h2 : b = 0 <;> by_cases h3 : c = 0 <;> simp [cmp_Or_int.f, cmp_Or_int.l0, rd, wrap64, or3, h1, h2, h3]
def cmp6 (a0 a1 a2 b0 b1 b2 : Int) : Int := or3 (cmpO a0 b0) (cmpO a1 b1) (cmpO a2 b2)
def cmpB (x y : S27) : Int := cmp6 x.f0 x.f1 x.f2 y.f0 y.f1 y.f2
theorem Cmp_ev (a0 a1 a2 b0 b1 b2 : Int) : Ev (fun k => ballot_Cmp.f k a0 a1 a2 b0 b1 b2) (cmp6 a0 a1 a2 b0 b1 b2) :=
  Ev.of (ballot_Cmp.mono a0 a1 a2 b0 b1 b2) (k := 5) (by simp only [ballot_Cmp.f, cmpO_u, cmpO_i, Option.bind_some, or3_of]; rfl)

/-! The greatest of a row. -/
def pick (a y : S27) : S27 := if cmpB a y < 0 then y else a
def best : S27 → List S27 → S27 := List.foldl pick
def top : List S27 → S27
  | [] => z27
  | x :: l => best x l
theorem rd_at {xs : List S27} {n : Nat} (h : n < xs.length) : rd_T27 xs (n : Int) = xs[n] := by
  simp [rd_T27, List.getD_eq_getElem?_getD, List.getElem?_eq_getElem h]
theorem greatest_from (xs : List S27) (hl : xs.length < 4611686018427387904) (d : Nat) : ∀ (n : Nat) (b : Bool) (a : S27), 0 < n → n ≤ xs.length → xs.length - n = d →
    ∃ b', Ev (fun k => api_Ballot.l0 k b xs (xs.length : Int) (n : Int) a.f0 a.f1 a.f2) ((best a (xs.drop n)).f0, (best a (xs.drop n)).f1, (best a (xs.drop n)).f2, b') := by
  induction d with
  | zero =>
    intro n b a h0 h1 hd
    have : n = xs.length := by omega
    subst this
    refine ⟨b, Ev.step (f := fun _ => some (a.f0, a.f1, a.f2, b)) (fun k => by simp only [api_Ballot.l0]; rw [if_neg (by omega)]) ?_⟩
    simp only [List.drop_length, best, List.foldl_nil]
    exact Ev.now _
  | succ d ih =>
    intro n b a h0 h1 hd
    have hn : n < xs.length := by omega
    have hw : wrap64 ((n : Int) + 1) = ((n + 1 : Nat) : Int) := wrap_nat (by omega)
    have hr := rd_at hn
    have hdrop : xs.drop n = xs[n] :: xs.drop (n + 1) := List.drop_eq_getElem_cons hn
    have hb : best a (xs.drop n) = best (pick a xs[n]) (xs.drop (n + 1)) := by rw [hdrop]; rfl
    by_cases hc : cmpB a xs[n] < 0
    · obtain ⟨b', he⟩ := ih (n + 1) true xs[n] (by omega) (by omega) (by omega)
      refine ⟨b', ?_⟩
      rw [hb, pick, if_pos hc]
      refine Ev.step (f := fun k => (ballot_Cmp.f k a.f0 a.f1 a.f2 xs[n].f0 xs[n].f1 xs[n].f2).bind fun t => if t < 0 then api_Ballot.l0 k true xs (xs.length : Int) ((n + 1 : Nat) : Int) xs[n].f0 xs[n].f1 xs[n].f2 else api_Ballot.l0 k b xs (xs.length : Int) ((n + 1 : Nat) : Int) a.f0 a.f1 a.f2) (fun k => ?_) (Ev.bind (Cmp_ev _ _ _ _ _ _) ?_)
      · simp only [api_Ballot.l0]
        rw [if_pos (by omega), if_pos (by omega), if_pos (by omega), if_neg (by omega), hr, hw]
      · refine Ev.congr (fun k => if_pos hc) he
    · obtain ⟨b', he⟩ := ih (n + 1) b a (by omega) (by omega) (by omega)
      refine ⟨b', ?_⟩
      rw [hb, pick, if_neg hc]
      refine Ev.step (f := fun k => (ballot_Cmp.f k a.f0 a.f1 a.f2 xs[n].f0 xs[n].f1 xs[n].f2).bind fun t => if t < 0 then api_Ballot.l0 k true xs (xs.length : Int) ((n + 1 : Nat) : Int) xs[n].f0 xs[n].f1 xs[n].f2 else api_Ballot.l0 k b xs (xs.length : Int) ((n + 1 : Nat) : Int) a.f0 a.f1 a.f2) (fun k => ?_) (Ev.bind (Cmp_ev _ _ _ _ _ _) ?_)
      · simp only [api_Ballot.l0]
        rw [if_pos (by omega), if_pos (by omega), if_pos (by omega), if_neg (by omega), hr, hw]
      · refine Ev.congr (fun k => if_neg hc) he
theorem greatest_ev (xs : List S27) (hl : xs.length < 4611686018427387904) : ∃ b, Ev (fun k => api_Ballot.f k xs) ((top xs).f0, (top xs).f1, (top xs).f2, b) := by
  cases xs with
  | nil => exact ⟨false, Ev.step (f := fun _ => some (0, 0, 0, false)) (fun k => by simp [api_Ballot.f, api_Ballot.l0]) (Ev.now _)⟩
  | cons x l =>
    obtain ⟨b, he⟩ := greatest_from (x :: l) hl (l.length) 1 true x (by omega) (by simp) (by simp)
    refine ⟨b, Ev.step (f := fun k => api_Ballot.l0 k true (x :: l) ((x :: l).length : Int) ((1 : Nat) : Int) x.f0 x.f1 x.f2) (fun k => ?_) he⟩
    simp only [api_Ballot.f, api_Ballot.l0]
    rw [if_pos (by simp), if_pos (by omega), if_pos (by simp), if_pos trivial, show rd_T27 (x :: l) 0 = x from rfl, show wrap64 (0 + 1) = ((1 : Nat) : Int) from by simp [wrap64]]

/-! What the order is. -/
theorem cmpO_lt (a b : Int) : cmpO a b < 0 ↔ a < b := by
  unfold cmpO
  split
  · simp_all
  · split <;> simp_all
theorem cmpO_zero (a b : Int) : cmpO a b = 0 ↔ a = b := by
  unfold cmpO
  by_cases h : a < b
  · simp [h]; omega
  · by_cases h2 : a > b
    · simp [h2, h]; omega
    · simp [h2, h]; omega
theorem cmpO_neg (a b : Int) : cmpO a b = - cmpO b a := by
  unfold cmpO
  by_cases h : a < b <;> by_cases h2 : b < a <;> simp [h, h2]
  omega
theorem cmpO_range (a b : Int) : -1 ≤ cmpO a b ∧ cmpO a b ≤ 1 := by
  unfold cmpO
  by_cases h : a < b <;> by_cases h2 : b < a <;> simp [h, h2]
theorem best_round (l : List S27) : ∀ a : S27, a.f0 ≤ (best a l).f0 ∧ (∀ x ∈ l, x.f0 ≤ (best a l).f0) ∧ ((best a l).f0 = a.f0 ∨ ∃ x ∈ l, (best a l).f0 = x.f0) := by
  induction l with
  | nil => intro a; exact ⟨Int.le_refl _, by simp, .inl rfl⟩
  | cons y l ih =>
    intro a
    obtain ⟨h1, h2, h3⟩ := ih (pick a y)
    have hp : a.f0 ≤ (pick a y).f0 ∧ y.f0 ≤ (pick a y).f0 ∧ ((pick a y) = a ∨ (pick a y) = y) := by
      have e0 := cmpO_zero a.f0 y.f0
      have e1 := cmpO_lt a.f0 y.f0
      by_cases h : cmpB a y < 0
      · rw [pick, if_pos h]
        unfold cmpB cmp6 or3 at h
        refine ⟨?_, Int.le_refl _, .inr rfl⟩
        by_cases hz : cmpO a.f0 y.f0 = 0
        · exact Int.le_of_eq (e0.1 hz)
        · rw [if_neg hz] at h; have := e1.1 h; omega
      · rw [pick, if_neg h]
        unfold cmpB cmp6 or3 at h
        refine ⟨Int.le_refl _, ?_, .inl rfl⟩
        by_cases hz : cmpO a.f0 y.f0 = 0
        · exact Int.le_of_eq (e0.1 hz).symm
        · rw [if_neg hz] at h
          have : ¬ a.f0 < y.f0 := fun h' => h (e1.2 h')
          omega
    have hs : best a (y :: l) = best (pick a y) l := rfl
    rw [hs]
    refine ⟨by omega, ?_, ?_⟩
    · intro x hx
      rcases List.mem_cons.1 hx with rfl | hx
      · omega
      · exact h2 x hx
    · rcases h3 with h3 | ⟨x, hx, h3⟩
      · rcases hp.2.2 with hp | hp
        · left; rw [h3, hp]
        · right; exact ⟨y, List.mem_cons_self, by rw [h3, hp]⟩
      · exact .inr ⟨x, List.mem_cons_of_mem _ hx, h3⟩
/-- The greatest round of a row; 0 of none. -/
def maxR : List S27 → Int := List.foldl (fun m x => if x.f0 > m then x.f0 else m) 0
theorem maxR_from (l : List S27) : ∀ m, m ≤ l.foldl (fun m x => if x.f0 > m then x.f0 else m) m ∧ (∀ x ∈ l, x.f0 ≤ l.foldl (fun m x => if x.f0 > m then x.f0 else m) m) ∧ (l.foldl (fun m x => if x.f0 > m then x.f0 else m) m = m ∨ ∃ x ∈ l, l.foldl (fun m x => if x.f0 > m then x.f0 else m) m = x.f0) := by
  induction l with
  | nil => intro m; exact ⟨Int.le_refl _, by simp, .inl rfl⟩
  | cons y l ih =>
    intro m
    simp only [List.foldl_cons]
    obtain ⟨h1, h2, h3⟩ := ih (if y.f0 > m then y.f0 else m)
    generalize hM : l.foldl (fun m x => if x.f0 > m then x.f0 else m) (if y.f0 > m then y.f0 else m) = M at *
    by_cases hc : y.f0 > m
    · rw [if_pos hc] at *
      refine ⟨by omega, ?_, ?_⟩
      · intro x hx
        rcases List.mem_cons.1 hx with rfl | hx
        · omega
        · exact h2 x hx
      · rcases h3 with h3 | ⟨x, hx, h3⟩
        · exact .inr ⟨y, List.mem_cons_self, h3⟩
        · exact .inr ⟨x, List.mem_cons_of_mem _ hx, h3⟩
    · rw [if_neg hc] at *
      refine ⟨by omega, ?_, ?_⟩
      · intro x hx
        rcases List.mem_cons.1 hx with rfl | hx
        · omega
        · exact h2 x hx
      · rcases h3 with h3 | ⟨x, hx, h3⟩
        · exact .inl h3
        · exact .inr ⟨x, List.mem_cons_of_mem _ hx, h3⟩
theorem top_round (l : List S27) (hp : ∀ x ∈ l, 0 ≤ x.f0) : (top l).f0 = maxR l := by
  cases l with
  | nil => rfl
  | cons x l =>
    obtain ⟨h1, h2, h3⟩ := best_round l x
    obtain ⟨g1, g2, g3⟩ := maxR_from (x :: l) 0
    have hx := hp x List.mem_cons_self
    show (best x l).f0 = List.foldl _ 0 (x :: l)
    generalize List.foldl (fun m x => if x.f0 > m then x.f0 else m) 0 (x :: l) = M at *
    have ga := g2 x List.mem_cons_self
    have hle : (best x l).f0 ≤ M := by
      rcases h3 with h3 | ⟨y, hy, h3⟩
      · rw [h3]; exact ga
      · rw [h3]; exact g2 y (List.mem_cons_of_mem _ hy)
    have hge : M ≤ (best x l).f0 := by
      rcases g3 with g3 | ⟨y, hy, g3⟩
      · omega
      · rw [g3]
        rcases List.mem_cons.1 hy with rfl | hy
        · exact h1
        · exact h2 y hy
    omega

/-! The next ballot. -/
def lifeB (a b : Int) : Bool := decide (a ≥ 1) && decide (a ≤ 15) && decide (b ≥ 1) && decide (b ≤ 4611686018427387903)
theorem life_is (a b : Int) : ballot_life.f a b = some (lifeB a b) := by
  unfold ballot_life.f lifeB
  by_cases h1 : a ≥ 1 <;> by_cases h2 : a ≤ 15 <;> by_cases h3 : b ≥ 1 <;> simp [h1, h2, h3]
def nextOf (a b m : Int) : Int × Int × Int × Int :=
  if lifeB a b = true then (if m ≥ 4611686018427387903 then (0, 0, 0, 3) else (m + 1, a, b, 0)) else (0, 0, 0, 1)
theorem u64_succ {m : Int} (h0 : 0 ≤ m) (h : ¬ m ≥ 4611686018427387903) : IntKind.u64.wrap (m + 1) = m + 1 := by
  simp only [IntKind.wrap]
  simp [IntKind.bits, IntKind.signed]
  omega
theorem maxR_nonneg (l : List S27) : 0 ≤ maxR l := (maxR_from l 0).1
theorem Next_ev (a b : Int) (xs : List S27) (hl : xs.length < 4611686018427387904) (hp : ∀ x ∈ xs, 0 ≤ x.f0) : Ev (fun k => ballot_Next.f k a b xs) (nextOf a b (maxR xs)) := by
  unfold ballot_Next.f nextOf
  simp only [life_is, Option.bind_some]
  by_cases h : lifeB a b = true
  · simp only [if_pos h]
    obtain ⟨t, he⟩ := greatest_ev xs hl
    rw [top_round xs hp] at he
    refine Ev.bind he ?_
    have h0 := maxR_nonneg xs
    by_cases hm : maxR xs ≥ 4611686018427387903
    · simp only [if_pos hm]; exact Ev.now _
    · simp only [if_neg hm, u64_succ h0 hm]; exact Ev.now _
  · simp only [if_neg h]; exact Ev.now _
theorem awake_ev : Ev (fun k => scrivenerlaw06_awake.f k) true := Ev.of scrivenerlaw06_awake.mono (k := 12) (by decide +kernel)
end Go.Proofs.Ythaoliipnoimaaa.Bal
