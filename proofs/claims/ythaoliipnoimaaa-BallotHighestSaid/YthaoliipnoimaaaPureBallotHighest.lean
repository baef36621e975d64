/- The law BallotHighest, plainly: the promise of what was accepted highest is the document's; what is done to its value changes nothing. -/
import Derived.Test.YthaoliipnoimaaaXH7
namespace Go.Proofs.Ythaoliipnoimaaa.High
set_option linter.unusedVariables false
set_option linter.unusedSimpArgs false
open Go.RowKit Go.Proofs.YthaoliipnoimaaaW.PrintWords Go.Proofs.YthaoliipnoimaaaW.PrintLast Go.Proofs.YthaoliipnoimaaaW.PrintMore Go.Proofs.Ythaoliipnoimaaa.XH


theorem wrap_nat {n : Nat} (h : n < 4611686018427387904) : wrap64 ((n : Int) + 1) = ((n + 1 : Nat) : Int) := by
  unfold wrap64; omega
def cmpO (a b : Int) : Int := if a < b then -1 else if a > b then 1 else 0
theorem cmpO_u (a b : Int) : cmp_Compare_uint64.f a b = some (cmpO a b) := by
  simp [cmp_Compare_uint64.f, cmp_isNaN_uint64.f, cmpO]
  split
  · rfl
  · split <;> rfl
theorem cmpO_i (a b : Int) : cmp_Compare_int.f a b = some (cmpO a b) := by
  simp [cmp_Compare_int.f, cmp_isNaN_int.f, cmpO]
  split
  · rfl
  · split <;> rfl
theorem cmpO_zero (a b : Int) : cmpO a b = 0 ↔ a = b := by
  unfold cmpO
  by_cases h : a < b
  · simp [h]; omega
  · by_cases h2 : a > b
    · simp [h2, h]; omega
    · simp [h2, h]; omega
def or3 (a b c : Int) : Int := if a = 0 then (if b = 0 then c else b) else a
theorem or3_of (a b c : Int) : cmp_Or_int.f 5 [a, b, c] = some (or3 a b c) := by
  by_cases h1 : a = 0 <;> by_cases h2 : b = 0 <;> by_cases h3 : c = 0 <;> simp [cmp_Or_int.f, cmp_Or_int.l0, rd, wrap64, or3, h1, h2, h3]
def cmp6 (a0 a1 a2 b0 b1 b2 : Int) : Int := or3 (cmpO a0 b0) (cmpO a1 b1) (cmpO a2 b2)
theorem Cmp_ev (a0 a1 a2 b0 b1 b2 : Int) : Ev (fun k => ballot_Cmp.f k a0 a1 a2 b0 b1 b2) (cmp6 a0 a1 a2 b0 b1 b2) :=
  Ev.of (ballot_Cmp.mono a0 a1 a2 b0 b1 b2) (k := 5) (by simp only [ballot_Cmp.f, cmpO_u, cmpO_i, Option.bind_some, or3_of]; rfl)
theorem refCmp_is (a0 a1 a2 b0 b1 b2 : Int) : scrivenerref06_Cmp.f a0 a1 a2 b0 b1 b2 = some (cmp6 a0 a1 a2 b0 b1 b2) := by
  unfold scrivenerref06_Cmp.f cmp6 or3
  by_cases h0 : a0 = b0
  · rw [if_pos h0, if_pos ((cmpO_zero a0 b0).2 h0)]
    by_cases h1 : a1 = b1
    · rw [if_pos h1, if_pos ((cmpO_zero a1 b1).2 h1)]
      by_cases h2 : a2 = b2
      · rw [if_pos h2, (cmpO_zero a2 b2).2 h2]
      · rw [if_neg h2, cmpO]
        by_cases h3 : a2 < b2
        · rw [if_pos h3, if_pos h3]
        · rw [if_neg h3, if_neg h3, if_pos (by omega)]
    · rw [if_neg h1, if_neg (fun h => h1 ((cmpO_zero a1 b1).1 h)), cmpO]
      by_cases h3 : a1 < b1
      · rw [if_pos h3, if_pos h3]
      · rw [if_neg h3, if_neg h3, if_pos (by omega)]
  · rw [if_neg h0, if_neg (fun h => h0 ((cmpO_zero a0 b0).1 h)), cmpO]
    by_cases h3 : a0 < b0
    · rw [if_pos h3, if_pos h3]
    · rw [if_neg h3, if_neg h3, if_pos (by omega)]
theorem awake_ev : Ev (fun k => scrivenerlaw06_awake.f k) true := Ev.of scrivenerlaw06_awake.mono (k := 12) (by decide +kernel)

def cmpP (x y : S51) : Int := cmp6 x.f2.f0 x.f2.f1 x.f2.f2 y.f2.f0 y.f2.f1 y.f2.f2
def pick (a y : S51) : S51 := if cmpP a y < 0 then y else a
def gr : List S51 → Option S51
  | [] => none
  | x :: l => some (l.foldl pick x)
theorem gr_snoc (l : List S51) (y : S51) : gr (l ++ [y]) = some (match gr l with | none => y | some a => pick a y) := by
  cases l with
  | nil => rfl
  | cons x l => simp [gr, List.foldl_append]
def nz (x : S51) : Bool := !(x.f2.f0 == 0) || (!(x.f2.f1 == 0) || (!(x.f2.f2 == 0)))
theorem nzE (x : S51) : (!(x.f2.f0 == 0) || (!(x.f2.f1 == 0) || (!(x.f2.f2 == 0)))) = nz x := rfl
abbrev T9 := Int × Int × Int × Int × Int × Int × Int × List Int × Bool
def enc : Option S51 → T9
  | none => (0, 0, 0, 0, 0, 0, 0, [], false)
  | some x => (x.f0, x.f1.f0, x.f1.f1, x.f1.f2, x.f2.f0, x.f2.f1, x.f2.f2, x.f3, true)
theorem rd_at {xs : List S51} {n : Nat} (h : n < xs.length) : rd_T51 xs (n : Int) = xs[n] := by
  simp [rd_T51, List.getD_eq_getElem?_getD, List.getElem?_eq_getElem h]
theorem greatest_from (xs : List S51) (hl : xs.length < 4611686018427387904) (d : Nat) : ∀ (n : Nat) (a : S51), 0 < n → n ≤ xs.length → xs.length - n = d →
    Ev (fun k => api_Promise.l0 k true xs (xs.length : Int) (n : Int) a.f0 a.f1.f0 a.f1.f1 a.f1.f2 a.f2.f0 a.f2.f1 a.f2.f2 a.f3) (enc (some ((xs.drop n).foldl pick a))) := by
  induction d with
  | zero =>
    intro n a h0 h1 hd
    have : n = xs.length := by omega
    subst this
    refine Ev.step (f := fun _ => some (enc (some a))) (fun k => by simp only [api_Promise.l0]; rw [if_neg (by omega)]; rfl) ?_
    simp only [List.drop_length, List.foldl_nil]
    exact Ev.now _
  | succ d ih =>
    intro n a h0 h1 hd
    have hn : n < xs.length := by omega
    have hw : wrap64 ((n : Int) + 1) = ((n + 1 : Nat) : Int) := wrap_nat (by omega)
    have hr := rd_at hn
    rw [List.drop_eq_getElem_cons hn, List.foldl_cons]
    have e1 : Ev (fun k => (ballot_Cmp.f k a.f2.f0 a.f2.f1 a.f2.f2 xs[n].f2.f0 xs[n].f2.f1 xs[n].f2.f2).bind fun t => some t) (cmpP a xs[n]) := Ev.bind (Cmp_ev _ _ _ _ _ _) (Ev.now _)
    have hi := ih (n + 1) (pick a xs[n]) (by omega) (by omega) (by omega)
    refine Ev.step (fun k => ?_) (Ev.bind e1 (r := enc (some ((xs.drop (n + 1)).foldl pick (pick a xs[n])))) (f := fun k t => if t < 0 then api_Promise.l0 k true xs (xs.length : Int) ((n + 1 : Nat) : Int) xs[n].f0 xs[n].f1.f0 xs[n].f1.f1 xs[n].f1.f2 xs[n].f2.f0 xs[n].f2.f1 xs[n].f2.f2 xs[n].f3 else api_Promise.l0 k true xs (xs.length : Int) ((n + 1 : Nat) : Int) a.f0 a.f1.f0 a.f1.f1 a.f1.f2 a.f2.f0 a.f2.f1 a.f2.f2 a.f3) ?_)
    · simp only [api_Promise.l0, ballot_Highest_1.f]
      rw [if_pos (by omega), if_pos (by omega), if_pos (by omega), if_neg (by omega), hr, hw]
    · by_cases hc : cmpP a xs[n] < 0
      · simp only [if_pos hc]
        rw [pick, if_pos hc] at hi
        rw [pick, if_pos hc]
        exact hi
      · simp only [if_neg hc]
        rw [pick, if_neg hc] at hi
        rw [pick, if_neg hc]
        exact hi
theorem greatest_ev (xs : List S51) (hl : xs.length < 4611686018427387904) : Ev (fun k => api_Promise.f k xs) (enc (gr xs)) := by
  cases xs with
  | nil => exact Ev.step (f := fun _ => some (enc none)) (fun k => by simp [api_Promise.f, api_Promise.l0, enc]) (Ev.now _)
  | cons x l =>
    have he := greatest_from (x :: l) hl (l.length) 1 x (by omega) (by simp) (by simp)
    refine Ev.step (fun k => ?_) he
    simp only [api_Promise.f, api_Promise.l0]
    rw [if_pos (by simp), if_pos (by omega), if_pos (by simp), if_pos trivial, show rd_T51 (x :: l) 0 = x from rfl, show wrap64 (0 + 1) = ((1 : Nat) : Int) from by simp [wrap64]]
theorem gr_mem (l : List S51) : ∀ x, gr l = some x → x ∈ l := by
  have hf : ∀ (l : List S51) (a : S51), l.foldl pick a = a ∨ l.foldl pick a ∈ l := by
    intro l
    induction l with
    | nil => intro a; exact .inl rfl
    | cons y l ih =>
      intro a
      rw [List.foldl_cons]
      rcases ih (pick a y) with h | h
      · rw [h]
        unfold pick
        split
        · exact .inr List.mem_cons_self
        · exact .inl rfl
      · exact .inr (List.mem_cons_of_mem _ h)
  intro x h
  cases l with
  | nil => cases h
  | cons y l =>
    injection h with h
    subst h
    rcases hf l y with h | h
    · rw [h]; exact List.mem_cons_self
    · exact List.mem_cons_of_mem _ h
theorem highest_from (xs : List S51) (hl : xs.length < 1759218604441) (hb : ∀ x ∈ xs, x.f3.length < 140737488355328) (d : Nat) : ∀ (n : Nat), n ≤ xs.length → xs.length - n = d →
    Ev (fun k => ballot_Highest.l0 k ((xs.take n).filter nz) xs (xs.length : Int) (n : Int)) (enc (gr (xs.filter nz))) := by
  induction d with
  | zero =>
    intro n h1 hd
    have : n = xs.length := by omega
    subst this
    rw [List.take_length]
    have hlen : (xs.filter nz).length ≤ xs.length := List.length_filter_le _ _
    refine Ev.step (fun k => ?_) (Ev.bind (greatest_ev (xs.filter nz) (by omega)) (r := enc (gr (xs.filter nz))) (f := fun _ bt => (slices_Clone_byte_byte.f bt.2.2.2.2.2.2.2.1).bind fun t208 => (some (bt.1, bt.2.1, bt.2.2.1, bt.2.2.2.1, bt.2.2.2.2.1, bt.2.2.2.2.2.1, bt.2.2.2.2.2.2.1, t208, bt.2.2.2.2.2.2.2.2))) ?_)
    · simp only [ballot_Highest.l0]
      rw [if_neg (by omega)]
    · cases hg : gr (xs.filter nz) with
      | none =>
        simp only [enc, slices_Clone_byte_byte.f, List.length_nil]
        exact Ev.now _
      | some x =>
        have hx := List.mem_filter.1 (gr_mem _ x hg)
        have hc : slices_Clone_byte_byte.f x.f3 = some x.f3 := if_pos (hb x hx.1)
        simp only [enc, hc, Option.bind_some]
        exact Ev.now _
  | succ d ih =>
    intro n h1 hd
    have hn : n < xs.length := by omega
    have hw : wrap64 ((n : Int) + 1) = ((n + 1 : Nat) : Int) := wrap_nat (by omega)
    have hr := rd_at hn
    have hi := ih (n + 1) (by omega) (by omega)
    have hlen : ((xs.take n).filter nz).length ≤ (xs.take n).length := List.length_filter_le _ _
    rw [List.length_take] at hlen
    rw [List.take_succ_eq_append_getElem hn, List.filter_append] at hi
    refine Ev.step (fun k => ?_) hi
    simp only [ballot_Highest.l0]
    rw [if_pos (by omega), if_pos (by omega), if_pos (by omega), hr, hw]
    rw [nzE]
    by_cases hz : nz xs[n] = true
    · rw [if_pos hz, if_pos (by omega), show List.filter nz [xs[n]] = [xs[n]] by simp [hz]]
    · rw [if_neg hz, show List.filter nz [xs[n]] = [] by simp [hz], List.append_nil]
theorem highest_ev (xs : List S51) (hl : xs.length < 1759218604441) (hb : ∀ x ∈ xs, x.f3.length < 140737488355328) : Ev (fun k => ballot_Highest.f k xs) (enc (gr (xs.filter nz))) :=
  highest_from xs hl hb xs.length 0 (by omega) (by omega)
def Best (xs : List S51) (n : Nat) (b : Int) : Prop := (b = -1 ∧ gr ((xs.take n).filter nz) = none) ∨ ∃ i : Nat, b = (i : Int) ∧ ∃ h : i < xs.length, gr ((xs.take n).filter nz) = some xs[i]
theorem refHighest_from (xs : List S51) (hl : xs.length < 4611686018427387904) (d : Nat) : ∀ (n : Nat) (b : Int), Best xs n b → n ≤ xs.length → xs.length - n = d →
    Ev (fun k => scrivenerref06_Highest.l0 k xs b (n : Int)) (enc (gr (xs.filter nz))) := by
  induction d with
  | zero =>
    intro n b hB h1 hd
    have : n = xs.length := by omega
    subst this
    unfold Best at hB
    rw [List.take_length] at hB
    rcases hB with ⟨rfl, hg⟩ | ⟨i, rfl, hi, hg⟩
    · rw [hg]
      exact Ev.step (f := fun _ => some (enc none)) (fun k => by simp only [scrivenerref06_Highest.l0]; rw [if_neg (by omega), if_pos (by omega)]; rfl) (Ev.now _)
    · rw [hg]
      refine Ev.step (f := fun _ => some (enc (some xs[i]))) (fun k => ?_) (Ev.now _)
      simp only [scrivenerref06_Highest.l0]
      rw [if_neg (by omega), if_neg (by omega), if_pos (by omega), if_pos (by omega), rd_at hi]
      rfl
  | succ d ih =>
    intro n b hB h1 hd
    have hn : n < xs.length := by omega
    have hw : wrap64 ((n : Int) + 1) = ((n + 1 : Nat) : Int) := wrap_nat (by omega)
    have hr := rd_at hn
    have ht : (xs.take (n + 1)).filter nz = (xs.take n).filter nz ++ (if nz xs[n] = true then [xs[n]] else []) := by
      rw [List.take_succ_eq_append_getElem hn, List.filter_append]
      by_cases hz : nz xs[n] = true <;> simp [hz]
    by_cases hz : nz xs[n] = true
    · rw [if_pos hz] at ht
      rcases hB with ⟨rfl, hg⟩ | ⟨i, rfl, hi, hg⟩
      · refine Ev.step (fun k => ?_) (ih (n + 1) (n : Int) (.inr ⟨n, rfl, hn, by rw [ht, gr_snoc, hg]⟩) (by omega) (by omega))
        simp only [scrivenerref06_Highest.l0]
        rw [if_pos (by omega), if_pos (by omega), hr, hw, nzE, if_pos hz, if_pos (by omega)]
      · by_cases hc : cmpP xs[i] xs[n] < 0
        · refine Ev.step (fun k => ?_) (ih (n + 1) (n : Int) (.inr ⟨n, rfl, hn, by rw [ht, gr_snoc, hg]; simp [pick, hc]⟩) (by omega) (by omega))
          simp only [scrivenerref06_Highest.l0, refCmp_is, Option.bind_some]
          rw [if_pos (by omega), if_pos (by omega), hr, hw, nzE, if_pos hz, if_neg (by omega), if_pos (by omega), if_pos (by omega), rd_at hi]
          exact if_pos hc
        · refine Ev.step (fun k => ?_) (ih (n + 1) (i : Int) (.inr ⟨i, rfl, hi, by rw [ht, gr_snoc, hg]; simp [pick, hc]⟩) (by omega) (by omega))
          simp only [scrivenerref06_Highest.l0, refCmp_is, Option.bind_some]
          rw [if_pos (by omega), if_pos (by omega), hr, hw, nzE, if_pos hz, if_neg (by omega), if_pos (by omega), if_pos (by omega), rd_at hi]
          exact if_neg hc
    · rw [if_neg hz, List.append_nil] at ht
      refine Ev.step (fun k => ?_) (ih (n + 1) b (by unfold Best; rw [ht]; exact hB) (by omega) (by omega))
      simp only [scrivenerref06_Highest.l0]
      rw [if_pos (by omega), if_pos (by omega), hr, hw, nzE, if_neg hz]
theorem refHighest_ev (xs : List S51) (hl : xs.length < 4611686018427387904) : Ev (fun k => scrivenerref06_Highest.f k xs) (enc (gr (xs.filter nz))) :=
  refHighest_from xs hl xs.length 0 (-1) (.inl ⟨rfl, rfl⟩) (by omega) (by omega)
theorem written_from (s : ByteArray) (y0 y1 y2 y3 y4 y5 y6 : Int) (ys : List Int) (hs : s = strOfNums ys) (z0 z1 z2 z3 z4 z5 z6 : Int) (n : Nat) (hn : n < 4611686018427387904) (d : Nat) : ∀ (i : Nat) (zs : List Int), zs.length = n → i ≤ n → n - i = d →
    Ev (fun k => scrivenerlaw06_BallotHighest.l1 k s (i : Int) z0 z1 z2 z3 z4 z5 z6 zs y0 y1 y2 y3 y4 y5 y6 ys) true := by
  induction d with
  | zero =>
    intro i zs hz h1 hd
    refine Ev.step (f := fun k => (scrivenerlaw06_awake.f k).bind fun t => some t) (fun k => ?_) (Ev.bind awake_ev (Ev.now _))
    simp only [scrivenerlaw06_BallotHighest.l1]
    rw [if_neg (by omega), if_pos (by rw [hs])]
  | succ d ih =>
    intro i zs hz h1 hd
    refine Ev.step (fun k => ?_) (ih (i + 1) (zs.set (i : Int).toNat (((rd zs i) + 1) % 256)) (by simp [hz]) (by omega) (by omega))
    simp only [scrivenerlaw06_BallotHighest.l1]
    rw [if_pos (by omega), if_pos (by omega), wrap_nat (by omega)]
theorem law_from (xs : List S51) (hl : xs.length ≤ 100) (d : Nat) : ∀ n : Nat, n ≤ xs.length → xs.length - n = d → (∀ x ∈ xs.take n, x.f3.length ≤ 10000) →
    Ev (fun k => scrivenerlaw06_BallotHighest.l0 k xs (n : Int)) true := by
  induction d with
  | zero =>
    intro n h1 hd hsmall
    have : n = xs.length := by omega
    subst this
    rw [List.take_length] at hsmall
    have hH := highest_ev xs (by omega) (fun x hx => by have := hsmall x hx; omega)
    have hR := refHighest_ev xs (by omega)
    refine Ev.step (fun k => ?_) (Ev.bind hH (r := true) (f := fun k bt230 => (scrivenerref06_Highest.f k xs).bind fun bt242 => (if (bt230.2.2.2.2.2.2.2.2 != bt242.2.2.2.2.2.2.2.2) = true then (none) else ((scrivenerref06_SamePromise.f bt230.1 bt230.2.1 bt230.2.2.1 bt230.2.2.2.1 bt230.2.2.2.2.1 bt230.2.2.2.2.2.1 bt230.2.2.2.2.2.2.1 bt230.2.2.2.2.2.2.2.1 bt242.1 bt242.2.1 bt242.2.2.1 bt242.2.2.2.1 bt242.2.2.2.2.1 bt242.2.2.2.2.2.1 bt242.2.2.2.2.2.2.1 bt242.2.2.2.2.2.2.2.1).bind fun t254 => (if t254 = true then (scrivenerlaw06_BallotHighest.l1 k (strOfNums bt242.2.2.2.2.2.2.2.1) 0 bt230.1 bt230.2.1 bt230.2.2.1 bt230.2.2.2.1 bt230.2.2.2.2.1 bt230.2.2.2.2.2.1 bt230.2.2.2.2.2.2.1 bt230.2.2.2.2.2.2.2.1 bt242.1 bt242.2.1 bt242.2.2.1 bt242.2.2.2.1 bt242.2.2.2.2.1 bt242.2.2.2.2.2.1 bt242.2.2.2.2.2.2.1 bt242.2.2.2.2.2.2.2.1) else (some false))))) ?_)
    · simp only [scrivenerlaw06_BallotHighest.l0, Option.bind_some, List.nil_append, List.length_nil]
      rw [if_neg (by omega), if_pos (by omega)]
    · refine Ev.bind hR ?_
      generalize hg : enc (gr (xs.filter nz)) = t
      have ht : t.2.2.2.2.2.2.2.1.length < 4611686018427387904 := by
        rw [← hg]
        cases h : gr (xs.filter nz) with
        | none => simp [enc]
        | some x =>
          have hx := List.mem_filter.1 (gr_mem _ x h)
          have := hsmall x hx.1
          simp only [enc]; omega
      have hS : scrivenerref06_SamePromise.f t.1 t.2.1 t.2.2.1 t.2.2.2.1 t.2.2.2.2.1 t.2.2.2.2.2.1 t.2.2.2.2.2.2.1 t.2.2.2.2.2.2.2.1 t.1 t.2.1 t.2.2.1 t.2.2.2.1 t.2.2.2.2.1 t.2.2.2.2.2.1 t.2.2.2.2.2.2.1 t.2.2.2.2.2.2.2.1 = some true := by
        simp [scrivenerref06_SamePromise.f]
      simp only [hS, Option.bind_some, bne_self_eq_false, Bool.false_eq_true, if_false, if_true]
      exact written_from _ _ _ _ _ _ _ _ _ rfl _ _ _ _ _ _ _ _ ht _ 0 _ rfl (by omega) rfl
  | succ d ih =>
    intro n h1 hd hsmall
    have hn : n < xs.length := by omega
    have hr := rd_at hn
    by_cases hc : ((xs[n].f3).length : Int) > 10000
    · refine Ev.step (f := fun k => (scrivenerlaw06_awake.f k).bind fun t => some t) (fun k => ?_) (Ev.bind awake_ev (Ev.now _))
      simp only [scrivenerlaw06_BallotHighest.l0]
      rw [if_pos (by omega), if_pos (by omega), hr, if_pos hc]
    · refine Ev.step (fun k => ?_) (ih (n + 1) (by omega) (by omega) (fun x hx => ?_))
      · simp only [scrivenerlaw06_BallotHighest.l0]
        rw [if_pos (by omega), if_pos (by omega), hr, if_neg hc, wrap_nat (by omega)]
      · rw [List.take_succ_eq_append_getElem hn] at hx
        rcases List.mem_append.1 hx with hx | hx
        · exact hsmall x hx
        · rw [List.mem_singleton] at hx
          subst hx
          omega
theorem BallotHighestP (l0 : List S51) (_ : (l0.length ≤ maxLen ∧ ∀ x0 ∈ l0, ((Lit.int .i64 x0.f0).wf = true ∧ (((Lit.int .u64 x0.f1.f0).wf = true ∧ ((Lit.int .i64 x0.f1.f1).wf = true ∧ (Lit.int .u64 x0.f1.f2).wf = true)) ∧ (((Lit.int .u64 x0.f2.f0).wf = true ∧ ((Lit.int .i64 x0.f2.f1).wf = true ∧ (Lit.int .u64 x0.f2.f2).wf = true)) ∧ (x0.f3.length ≤ maxLen ∧ ∀ x1 ∈ x0.f3, (Lit.int .u8 x1).wf = true)))))) : ∃ k, scrivenerlaw06_BallotHighest.f k l0 = some true := by
  refine Ev.rounds ?_
  unfold scrivenerlaw06_BallotHighest.f
  by_cases h : (l0.length : Int) > 100
  · simp only [if_pos h]; exact Ev.bind awake_ev (Ev.now _)
  · simp only [if_neg h]
    exact law_from l0 (by omega) l0.length 0 (by omega) (by omega) (by simp)
end Go.Proofs.Ythaoliipnoimaaa.High
