/- What a net and the document's net have in common: the plain law of each call. -/
import Derived.Test.YtnaefndclalepaaJoi
namespace Go.Proofs.Ytnaefndclalepaa.Net
set_option linter.unusedVariables false
set_option linter.unusedSimpArgs false
open Go.RowKit Go.Shelf Go.Proofs.YtnaefndclalepaaW.PrintWords Go.Proofs.Ytnaefndclalepaa.XN
structure Rel (n : NetS) (m : RefS) (K : Nat) : Prop where
  good : Good n
  most : n.most = 64
  nodes : n.nodes = m.N
  all : n.all = m.Bag
  cut : ∀ a b, twoB m.N a b = true → n.cut (16 * a.toNat + b.toNat) = decide (lkP m a b ∈ m.Cuts)
  cl : m.Cuts.length ≤ K
theorem Rel.more {n : NetS} {m : RefS} {K K' : Nat} (h : Rel n m K) (hk : K ≤ K') : Rel n m K' := ⟨h.good, h.most, h.nodes, h.all, h.cut, Nat.le_trans h.cl hk⟩
theorem Rel.new {m : Int} (h : m ≤ 15) : Rel ⟨[], 64, m, fun _ => false⟩ ⟨m, [], []⟩ 0 := ⟨Good.new h, rfl, rfl, rfl, fun a b _ => by simp, Nat.le_refl _⟩
section
variable {n : NetS} {m : RefS} {K : Nat}
theorem Rel.bag (h : Rel n m K) : m.Bag.length ≤ 64 := by rw [← h.all]; exact h.good.len
theorem Rel.openB_ (h : Rel n m K) (a b : Int) : openB n a b = ropenB m a b := by
  unfold openB ropenB
  rw [h.nodes]
  cases ht : twoB m.N a b
  · rfl
  · rw [h.cut a b ht]
theorem Rel.putB_ (h : Rel n m K) : putB n = decide (m.Bag.length < 64) := by
  unfold putB
  rw [h.most, ← h.all]
  by_cases hl : n.all.length < 64
  · rw [decide_eq_true hl, decide_eq_false (by omega)]; rfl
  · rw [decide_eq_false hl, decide_eq_true (by omega)]; rfl
theorem Rel.has_ (h : Rel n m K) (i : Int) : (hasB n i = true) ↔ (0 ≤ i ∧ i < m.Bag.length) := by
  unfold hasB
  rw [h.all]
  simp
theorem Rel.atE_ (h : Rel n m K) (i : Int) : atE n i = ratE m i := by
  unfold atE ratE
  by_cases hh : hasB n i = true
  · rw [if_pos hh, if_pos ((h.has_ i).1 hh)]
  · rw [if_neg hh, if_neg (fun h2 => hh ((h.has_ i).2 h2))]
theorem Rel.atM_ (h : Rel n m K) (i : Int) : atM n i = ratM m i := by
  unfold atM ratM
  by_cases hh : hasB n i = true
  · rw [if_pos hh, if_pos ((h.has_ i).1 hh), h.all]
  · rw [if_neg hh, if_neg (fun h2 => hh ((h.has_ i).2 h2))]
theorem Rel.sendE_ (h : Rel n m K) (a b : Int) (l : List Int) : sendE n a b l = rsendE m a b l := by
  unfold sendE rsendE
  rw [h.nodes, h.openB_, h.putB_]
  simp only [decide_eq_true_eq]
theorem Rel.setAll (h : Rel n m K) {l : List S33} (hg : Good { n with all := l }) : Rel { n with all := l } { m with Bag := l } K := ⟨hg, h.most, h.nodes, rfl, h.cut, h.cl⟩
theorem Rel.send (h : Rel n m K) (a b : Int) (l : List Int) : Rel (sendN n a b l) (rsendN m a b l) K := by
  have hg := h.good.send a b l
  unfold rsendN
  by_cases he : sendE n a b l = 0
  · rw [if_pos (h.sendE_ a b l ▸ he)]
    obtain ⟨e1, e2⟩ := sendE_eq he
    rw [e1] at hg ⊢
    unfold putN at hg ⊢
    rw [if_pos e2] at hg ⊢
    rw [← h.all]
    exact h.setAll hg
  · rw [if_neg (fun h2 => he ((h.sendE_ a b l).trans h2)), sendE_ne he]
    exact h
theorem Rel.dblE_ (h : Rel n m K) (i : Int) : dblE n i = rdblE m i := by
  unfold dblE rdblE
  rw [h.putB_, ← h.atE_ i]
  unfold atE
  by_cases hh : hasB n i = true
  · rw [if_pos hh, if_pos hh, if_pos rfl]; simp only [decide_eq_true_eq]
  · rw [if_neg hh, if_neg hh, if_neg (by decide)]
theorem Rel.dbl (h : Rel n m K) (i : Int) : Rel (dblN n i) (rdblN m i) K := by
  have hg := h.good.dbl i
  unfold rdblN
  by_cases he : dblE n i = 0
  · rw [if_pos (h.dblE_ i ▸ he)]
    obtain ⟨e1, e2⟩ := dblE_eq he
    rw [e1] at hg ⊢
    unfold putN at hg ⊢
    rw [if_pos e2] at hg ⊢
    rw [← h.all, ← h.atM_ i]
    exact h.setAll hg
  · rw [if_neg (fun h2 => he ((h.dblE_ i).trans h2)), dblE_ne he]
    exact h
theorem Rel.dropE_ (h : Rel n m K) (i : Int) : dropE n i = ratE m i := h.atE_ i
theorem Rel.drop (h : Rel n m K) (i : Int) : Rel (dropN n i) (rdropN m i) K := by
  have hg := h.good.drop i
  unfold rdropN dropN at *
  rw [← h.atE_ i]
  unfold atE
  by_cases hh : hasB n i = true
  · rw [if_pos hh] at hg ⊢
    rw [if_pos hh, if_pos rfl, ← h.all]
    exact h.setAll hg
  · rw [if_neg hh, if_neg hh, if_neg (by decide)]
    exact h
theorem Rel.dlvE_ (h : Rel n m K) (i : Int) : dlvE n i = rdlvE m i := by
  unfold dlvE rdlvE
  rw [← h.atE_ i, ← h.atM_ i, h.openB_]
  unfold atE
  by_cases hh : hasB n i = true
  · rw [if_pos hh, if_pos hh, if_pos rfl]
  · rw [if_neg hh, if_neg hh, if_neg (by decide)]
theorem Rel.dlvM_ (h : Rel n m K) (i : Int) : dlvM n i = rdlvM m i := by
  unfold dlvM rdlvM
  rw [h.dlvE_, h.atM_]
theorem Rel.dlv (h : Rel n m K) (i : Int) : Rel (dlvN n i) (rdlvN m i) K := by
  have hg := h.good.dlv i
  unfold dlvN rdlvN at *
  rw [← h.dlvE_ i]
  by_cases he : dlvE n i = 0
  · rw [if_pos he] at hg ⊢
    rw [if_pos he, ← h.all]
    exact h.setAll hg
  · rw [if_neg he, if_neg he]
    exact h
theorem Rel.linkE_ (h : Rel n m K) (a b : Int) : linkE n a b = rlinkE m a b := by
  unfold linkE rlinkE
  rw [h.nodes]
theorem two_range {N a b : Int} (h : twoB N a b = true) : 1 ≤ a ∧ a ≤ N ∧ 1 ≤ b ∧ b ≤ N ∧ a ≠ b := by
  unfold twoB at h
  simp at h
  omega
theorem link_cut (n : NetS) (a b : Int) (c : Bool) (ht : twoB n.nodes a b = true) (j : Nat) : (n.link a b c).cut j = if j = 16 * a.toNat + b.toNat ∨ j = 16 * b.toNat + a.toNat then c else n.cut j := by
  unfold NetS.link
  rw [if_pos ht]
  show (if j = 16 * b.toNat + a.toNat then c else if j = 16 * a.toNat + b.toNat then c else n.cut j) = _
  by_cases h1 : j = 16 * b.toNat + a.toNat
  · rw [if_pos h1, if_pos (.inr h1)]
  · rw [if_neg h1]
    by_cases h2 : j = 16 * a.toNat + b.toNat
    · rw [if_pos h2, if_pos (.inl h2)]
    · rw [if_neg h2, if_neg (fun h => h.elim h2 h1)]
theorem lk_same {N : Int} (h15 : N ≤ 15) {a b x y : Int} (h1 : twoB N a b = true) (h2 : twoB N x y = true) : ((min x y, max x y) = (min a b, max a b)) ↔ (16 * x.toNat + y.toNat = 16 * a.toNat + b.toNat ∨ 16 * x.toNat + y.toNat = 16 * b.toNat + a.toNat) := by
  have r1 := two_range h1
  have r2 := two_range h2
  obtain ⟨a, rfl⟩ := Int.eq_ofNat_of_zero_le (by omega : 0 ≤ a)
  obtain ⟨b, rfl⟩ := Int.eq_ofNat_of_zero_le (by omega : 0 ≤ b)
  obtain ⟨x, rfl⟩ := Int.eq_ofNat_of_zero_le (by omega : 0 ≤ x)
  obtain ⟨y, rfl⟩ := Int.eq_ofNat_of_zero_le (by omega : 0 ≤ y)
  simp only [Int.toNat_natCast, Prod.mk.injEq]
  clear h1 h2
  have a1 : a ≤ 15 := by omega
  have a2 : b ≤ 15 := by omega
  have a3 : x ≤ 15 := by omega
  have a4 : y ≤ 15 := by omega
  have a5 : a ≠ b := by omega
  have a6 : x ≠ y := by omega
  clear r1 r2 h15
  omega
theorem link_nodes (n : NetS) (a b : Int) (c : Bool) : (n.link a b c).nodes = n.nodes ∧ (n.link a b c).most = n.most := by
  unfold NetS.link
  split <;> exact ⟨rfl, rfl⟩
theorem lkP_cuts (m : RefS) (C : List (Int × Int)) (a b : Int) : lkP { m with Cuts := C } a b = lkP m a b := rfl
theorem Rel.cut_ (h : Rel n m K) (a b : Int) : Rel (n.link a b true) (rcutN m a b) (K + 1) := by
  have hn := link_nodes n a b true
  have hN : (rcutN m a b).N = m.N := by unfold rcutN; split <;> rfl
  have hB : (rcutN m a b).Bag = m.Bag := by unfold rcutN; split <;> rfl
  refine ⟨h.good.link a b true, hn.2.trans h.most, by rw [hN]; exact hn.1.trans h.nodes, by rw [hB]; exact (link_all n a b true).trans h.all, fun x y hxy => ?_, ?_⟩
  · rw [hN] at hxy
    have hlk : lkP (rcutN m a b) x y = lkP m x y := by unfold lkP; rw [hN]
    rw [hlk]
    by_cases ht : twoB m.N a b = true
    · have ht' : twoB n.nodes a b = true := by rw [h.nodes]; exact ht
      rw [link_cut n a b true ht']
      have hs := lk_same (by have := h.good.nodes; have := h.nodes; omega) ht hxy
      have e1 : lkP m x y = (min x y, max x y) := by unfold lkP; rw [if_pos hxy]
      have e2 : lkP m a b = (min a b, max a b) := by unfold lkP; rw [if_pos ht]
      by_cases hj : 16 * x.toNat + y.toNat = 16 * a.toNat + b.toNat ∨ 16 * x.toNat + y.toNat = 16 * b.toNat + a.toNat
      · rw [if_pos hj]
        have hm : lkP m x y ∈ (rcutN m a b).Cuts := by
          have e3 : lkP m x y = lkP m a b := by rw [e1, e2]; exact hs.2 hj
          unfold rcutN
          by_cases hc : lkP m a b ∈ m.Cuts
          · rw [if_neg (fun h2 => h2.2 hc), e3]; exact hc
          · rw [if_pos ⟨ht, hc⟩, e3]; simp
        rw [decide_eq_true hm]
      · rw [if_neg hj, h.cut x y hxy]
        have hne : lkP m x y ≠ lkP m a b := by rw [e1, e2]; exact fun h2 => hj (hs.1 h2)
        have : (lkP m x y ∈ (rcutN m a b).Cuts) ↔ lkP m x y ∈ m.Cuts := by
          unfold rcutN
          split
          · simp [hne]
          · rfl
        exact decide_eq_decide.2 this.symm
    · have ht' : ¬ twoB n.nodes a b = true := by rw [h.nodes]; exact ht
      have e1 : n.link a b true = n := by unfold NetS.link; rw [if_neg ht']
      have e2 : rcutN m a b = m := by unfold rcutN; rw [if_neg (fun h2 => ht h2.1)]
      rw [e1, e2]
      exact h.cut x y hxy
  · unfold rcutN
    split
    · simp only [List.length_append, List.length_singleton]; have := h.cl; omega
    · exact Nat.le_succ_of_le h.cl
theorem Rel.heal_ (h : Rel n m K) (a b : Int) : Rel (n.link a b false) (rhealN m a b) K := by
  have hn := link_nodes n a b false
  have hN : (rhealN m a b).N = m.N := by unfold rhealN; split <;> rfl
  have hB : (rhealN m a b).Bag = m.Bag := by unfold rhealN; split <;> rfl
  refine ⟨h.good.link a b false, hn.2.trans h.most, by rw [hN]; exact hn.1.trans h.nodes, by rw [hB]; exact (link_all n a b false).trans h.all, fun x y hxy => ?_, ?_⟩
  · rw [hN] at hxy
    have hlk : lkP (rhealN m a b) x y = lkP m x y := by unfold lkP; rw [hN]
    rw [hlk]
    by_cases ht : twoB m.N a b = true
    · have ht' : twoB n.nodes a b = true := by rw [h.nodes]; exact ht
      rw [link_cut n a b false ht']
      have hs := lk_same (by have := h.good.nodes; have := h.nodes; omega) ht hxy
      have e1 : lkP m x y = (min x y, max x y) := by unfold lkP; rw [if_pos hxy]
      have e2 : lkP m a b = (min a b, max a b) := by unfold lkP; rw [if_pos ht]
      have hc : (lkP m x y ∈ (rhealN m a b).Cuts) ↔ (lkP m x y ∈ m.Cuts ∧ lkP m x y ≠ lkP m a b) := by
        unfold rhealN
        rw [if_pos ht]
        simp [List.mem_filter]
      by_cases hj : 16 * x.toNat + y.toNat = 16 * a.toNat + b.toNat ∨ 16 * x.toNat + y.toNat = 16 * b.toNat + a.toNat
      · rw [if_pos hj]
        have e3 : lkP m x y = lkP m a b := by rw [e1, e2]; exact hs.2 hj
        exact (decide_eq_false (fun h2 => (hc.1 h2).2 e3)).symm
      · rw [if_neg hj, h.cut x y hxy]
        have hne : lkP m x y ≠ lkP m a b := by rw [e1, e2]; exact fun h2 => hj (hs.1 h2)
        exact decide_eq_decide.2 ⟨fun h2 => hc.2 ⟨h2, hne⟩, fun h2 => (hc.1 h2).1⟩
    · have ht' : ¬ twoB n.nodes a b = true := by rw [h.nodes]; exact ht
      have e1 : n.link a b false = n := by unfold NetS.link; rw [if_neg ht']
      have e2 : rhealN m a b = m := by unfold rhealN; rw [if_neg ht]
      rw [e1, e2]
      exact h.cut x y hxy
  · unfold rhealN
    split
    · exact Nat.le_trans (List.length_filter_le _ _) h.cl
    · exact h.cl
theorem Rel.find_ (h : Rel n m K) (tt i : Int) {r : Option Nat} (hr : First (rfP m tt) i.toNat m.Bag.length r) : findI n tt i = oI r ∧ findB n tt i = r.isSome := by
  have h1 := findO_first n tt i
  rw [h.all] at h1
  have h2 : findO n tt i = r := First.unique (fun j hj1 hj2 => by
    unfold findP rfP
    rw [h.openB_]) h1 hr
  unfold findI findB oI
  rw [h2]
  exact ⟨rfl, rfl⟩
end
/-! ### an act -/
def stepN (x : S41) (n : NetS) : NetS := if x.f0 = 0 then sendN n x.f1 x.f2 x.f4 else if x.f0 = 1 then dlvN n x.f3 else if x.f0 = 2 then dropN n x.f3 else if x.f0 = 3 then dblN n x.f3 else if x.f0 = 4 then n.link x.f1 x.f2 true else if x.f0 = 5 then n.link x.f1 x.f2 false else n
def stepR (x : S41) (m : RefS) : RefS := if x.f0 = 0 then rsendN m x.f1 x.f2 x.f4 else if x.f0 = 1 then rdlvN m x.f3 else if x.f0 = 2 then rdropN m x.f3 else if x.f0 = 3 then rdblN m x.f3 else if x.f0 = 4 then rcutN m x.f1 x.f2 else if x.f0 = 5 then rhealN m x.f1 x.f2 else m
theorem Rel.step {n : NetS} {m : RefS} {K : Nat} (h : Rel n m K) (x : S41) : Rel (stepN x n) (stepR x m) (K + 1) := by
  have hk : K ≤ K + 1 := Nat.le_succ K
  unfold stepN stepR
  by_cases h0 : x.f0 = 0
  · rw [if_pos h0, if_pos h0]; exact (h.send _ _ _).more hk
  rw [if_neg h0, if_neg h0]
  by_cases h1 : x.f0 = 1
  · rw [if_pos h1, if_pos h1]; exact (h.dlv _).more hk
  rw [if_neg h1, if_neg h1]
  by_cases h2 : x.f0 = 2
  · rw [if_pos h2, if_pos h2]; exact (h.drop _).more hk
  rw [if_neg h2, if_neg h2]
  by_cases h3 : x.f0 = 3
  · rw [if_pos h3, if_pos h3]; exact (h.dbl _).more hk
  rw [if_neg h3, if_neg h3]
  by_cases h4 : x.f0 = 4
  · rw [if_pos h4, if_pos h4]; exact h.cut_ _ _
  rw [if_neg h4, if_neg h4]
  by_cases h5 : x.f0 = 5
  · rw [if_pos h5, if_pos h5]; exact (h.heal_ _ _).more hk
  rw [if_neg h5, if_neg h5]
  exact h.more hk
end Go.Proofs.Ytnaefndclalepaa.Net
