/- The net's small calls: which two nodes, which links are open, how many messages. -/
import Derived.Test.YtnaefndclalepaaFr
namespace Go.Proofs.Ytnaefndclalepaa.Net
set_option linter.unusedVariables false
set_option linter.unusedSimpArgs false
open Go.RowKit Go.Proofs.YtnaefndclalepaaW.PrintWords Go.Proofs.YtnaefndclalepaaW.PrintLast Go.Proofs.YtnaefndclalepaaW.PrintMore Go.Proofs.Ytnaefndclalepaa.XN
/-- Are a and b two of m nodes? -/
def twoB (m a b : Int) : Bool := decide (1 ≤ a) && decide (a ≤ m) && decide (1 ≤ b) && decide (b ≤ m) && decide (a ≠ b)
/-- A receiver: nil, or a net at a block. -/
def Recv (W : World) (p : Option Addr) (fp : Nat → Prop) (n : NetS) : Prop := (p = none ∧ n = ⟨[], 0, 0, fun _ => false⟩) ∨ ∃ g, p = some ⟨g, 0, none⟩ ∧ IsNet W g fp n
theorem nodes_r (n : NetS) (p : Option Addr) (fp : Nat → Prop) (w : World) (h : Recv w p fp n) : Calls Try.prog 25 #[.pointer p] w fun e w' => e = .returned (.int .i64 n.nodes) ∧ w = w' := by
  rcases h with ⟨rfl, rfl⟩ | ⟨g, rfl, h⟩
  · exact nodes_nil w
  · exact nodes_c n g fp w h
theorem two_r (n : NetS) (p : Option Addr) (fp : Nat → Prop) (w : World) (h : Recv w p fp n) (a b : Int) : Calls Try.prog 27 #[.pointer p, .int .i64 a, .int .i64 b] w fun e w' => e = .returned (.bool (twoB n.nodes a b)) ∧ w = w' := by
  have hn := nodes_r n p fp w h
  clear h
  generalize n.nodes = m at *
  have HN := Aside0.mk hn
  clear hn
  by_cases h1 : 1 ≤ a
  · by_cases h2 : a ≤ m
    · by_cases h3 : 1 ≤ b
      · by_cases h4 : b ≤ m
        · by_cases h5 : a = b
          · have hv : twoB m a b = false := by simp [twoB, h1, h2, h3, h4, h5]
            have HV := Aside0.mk hv
            clear hv
            have e5 : (a != b) = false := by simp [h5]
            have E5 := Aside0.mk h5
            clear h5
            go_enter Try.func27, Try.ntmps27
            go_wp2_with (first | (go_at_call 25; refine HN.out.mono ?_; rintro e w' ⟨rfl, rfl⟩))
            go_ret
            exact ⟨by rw [HV.out]; rfl, rfl⟩
          · have hv : twoB m a b = true := by simp [twoB, h1, h2, h3, h4, h5]
            have HV := Aside0.mk hv
            clear hv
            have e5 : (a != b) = true := by simp [h5]
            clear h5
            go_enter Try.func27, Try.ntmps27
            go_wp2_with (first | (go_at_call 25; refine HN.out.mono ?_; rintro e w' ⟨rfl, rfl⟩))
            go_ret
            exact ⟨by rw [HV.out]; rfl, rfl⟩
        · have hv : twoB m a b = false := by simp [twoB, h1, h2, h3, h4]
          have HV := Aside0.mk hv
          clear hv
          have e4 : decide (b ≤ m) = false := by simpa using h4
          go_enter Try.func27, Try.ntmps27
          go_wp2_with (first | (go_at_call 25; refine HN.out.mono ?_; rintro e w' ⟨rfl, rfl⟩))
          go_ret
          exact ⟨by rw [HV.out]; rfl, rfl⟩
      · have hv : twoB m a b = false := by simp [twoB, h1, h2, h3]
        have HV := Aside0.mk hv
        clear hv
        have e4 : decide (1 ≤ b) = false := by simpa using h3
        go_enter Try.func27, Try.ntmps27
        go_wp2_with (first | (go_at_call 25; refine HN.out.mono ?_; rintro e w' ⟨rfl, rfl⟩))
        go_ret
        exact ⟨by rw [HV.out]; rfl, rfl⟩
    · have hv : twoB m a b = false := by simp [twoB, h1, h2]
      have HV := Aside0.mk hv
      clear hv
      have e4 : decide (a ≤ m) = false := by simpa using h2
      go_enter Try.func27, Try.ntmps27
      go_wp2_with (first | (go_at_call 25; refine HN.out.mono ?_; rintro e w' ⟨rfl, rfl⟩))
      go_ret
      exact ⟨by rw [HV.out]; rfl, rfl⟩
  · have hv : twoB m a b = false := by simp [twoB, h1]
    have HV := Aside0.mk hv
    clear hv
    have e4 : decide (1 ≤ a) = false := by simpa using h1
    go_enter Try.func27, Try.ntmps27
    go_wp2_with (first | (go_at_call 25; refine HN.out.mono ?_; rintro e w' ⟨rfl, rfl⟩))
    go_ret
    exact ⟨by rw [HV.out]; rfl, rfl⟩
theorem twoB_spec {m a b : Int} (h : twoB m a b = true) : 1 ≤ a ∧ a ≤ m ∧ 1 ≤ b ∧ b ≤ m ∧ a ≠ b := by simp [twoB] at h; omega
/-- Is the link open? -/
def openB (n : NetS) (a b : Int) : Bool := twoB n.nodes a b && !n.cut (16 * a.toNat + b.toNat)
theorem open_r (n : NetS) (p : Option Addr) (fp : Nat → Prop) (w : World) (h : Recv w p fp n) (hm : n.nodes ≤ 15) (a b : Int) : Calls Try.prog 26 #[.pointer p, .int .i64 a, .int .i64 b] w fun e w' => e = .returned (.bool (openB n a b)) ∧ w = w' := by
  have ht := two_r n p fp w h a b
  by_cases h2 : twoB n.nodes a b = true
  · obtain ⟨h1, h3, h4, h5, h6⟩ := twoB_spec h2
    rcases h with ⟨rfl, rfl⟩ | ⟨g, rfl, h⟩
    · simp only at h3; omega
    · obtain ⟨A, c, _, _, _, hc, _, _⟩ := h.open_
      have hcell := hc (16 * a.toNat + b.toNat) (by omega)
      clear hc h
      have hv : openB n a b = !n.cut (16 * a.toNat + b.toNat) := by simp [openB, h2]
      rw [hv]
      clear hv
      rw [h2] at ht
      generalize n.cut (16 * a.toNat + b.toNat) = q at *
      have HT := Aside0.mk ht
      clear ht h2 h6
      obtain ⟨a, rfl⟩ := Int.eq_ofNat_of_zero_le (show 0 ≤ a by omega)
      obtain ⟨b, rfl⟩ := Int.eq_ofNat_of_zero_le (show 0 ≤ b by omega)
      have ha : a < 16 := by omega
      have hb : b < 16 := by omega
      clear h1 h3 h4 h5 hm
      simp only [Int.toNat_natCast] at *
      rw [show 3 + (16 * a + b) = 3 + a * 16 + b by omega] at hcell
      go_enter Try.func26, Try.ntmps26
      go_wp2_with (first | (go_at_call 27; refine HT.out.mono ?_; rintro e w' ⟨rfl, rfl⟩))
      go_ret
      exact ⟨rfl, rfl⟩
  · have hv : openB n a b = false := by simp [openB, h2]
    rw [hv]
    clear hv
    rw [Bool.eq_false_iff.2 h2] at ht
    clear h h2
    have HT := Aside0.mk ht
    clear ht
    go_enter Try.func26, Try.ntmps26
    go_wp2_with (first | (go_at_call 27; refine HT.out.mono ?_; rintro e w' ⟨rfl, rfl⟩))
    go_ret
    exact ⟨rfl, rfl⟩
/-- An error's number. -/
abbrev E (n : Int) : Ending := .returned (.int .i64 n)
theorem len_r (n : NetS) (p : Option Addr) (fp : Nat → Prop) (w : World) (h : Recv w p fp n) : Calls Try.prog 11 #[.pointer p] w fun e w' => e = .returned (.int .i64 n.all.length) ∧ w = w' := by
  rcases h with ⟨rfl, rfl⟩ | ⟨g, rfl, h⟩
  · go_enter Try.func11, Try.ntmps11
    go_wp2
    go_ret
    exact ⟨rfl, rfl⟩
  · obtain ⟨A, c, h0, _, _, hc, _, hC⟩ := h.open_
    clear h hc hC
    go_enter Try.func11, Try.ntmps11
    go_wp2
    go_ret
    exact ⟨rfl, rfl⟩
def hasB (n : NetS) (i : Int) : Bool := decide (0 ≤ i) && decide (i < n.all.length)
theorem has_c (n : NetS) (g : Nat) (fp : Nat → Prop) (w : World) (h : IsNet w g fp n) (i : Int) : Calls Try.prog 32 #[.pointer (some ⟨g, 0, none⟩), .int .i64 i] w fun e w' => e = .returned (.bool (hasB n i)) ∧ w = w' := by
  obtain ⟨A, c, h0, _, _, hc, _, hC⟩ := h.open_
  clear h hc hC
  by_cases h1 : 0 ≤ i
  · by_cases h2 : i < (n.all.length : Int)
    · have HV := Aside0.mk (show hasB n i = true by simp [hasB, h1, h2])
      have e2 : decide (i < (n.all.length : Int)) = true := by simpa using h2
      go_enter Try.func32, Try.ntmps32
      go_wp2
      go_ret
      exact ⟨by rw [HV.out]; rfl, rfl⟩
    · have HV := Aside0.mk (show hasB n i = false by simp [hasB, h1, h2])
      have e2 : decide (i < (n.all.length : Int)) = false := by simpa using h2
      go_enter Try.func32, Try.ntmps32
      go_wp2
      go_ret
      exact ⟨by rw [HV.out]; rfl, rfl⟩
  · have HV := Aside0.mk (show hasB n i = false by simp [hasB, h1])
    have e2 : decide (0 ≤ i) = false := by simpa using h1
    go_enter Try.func32, Try.ntmps32
    go_wp2
    go_ret
    exact ⟨by rw [HV.out]; rfl, rfl⟩
end Go.Proofs.Ytnaefndclalepaa.Net
