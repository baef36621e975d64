/- New's small callees: is a broker's number odd? -/
import Derived.Test.YtajnladoomkgaaaHlp
import Derived.Test.YtajnladoomkgaaaItr
namespace Go.Proofs.Ytajnladoomkgaaa.Cli
set_option linter.unusedVariables false
set_option linter.unusedSimpArgs false
open Go.RowKit Go.Proofs.YtajnladoomkgaaaW.PrintWords Go.Proofs.YtajnladoomkgaaaW.PrintLast Go.Proofs.YtajnladoomkgaaaW.PrintMore Go.Proofs.Ytajnladoomkgaaa.XC
attribute [local go_sem] max2_int min2_int max_two min_two

def oddB (b : Int) : Bool := decide (b < 1) || decide (15 < b)
theorem odd_c (b : Int) (w : World) : Calls Try.prog 17 #[.int .i64 b] w fun e w' => e = .returned (.bool (oddB b)) ∧ w = w' := by
  by_cases h : b < 1
  · have HV := Aside0.mk (show oddB b = true by simp [oddB, h])
    have hd : decide (b < 1) = true := by simpa using h
    go_enter Try.func17, Try.ntmps17
    go_wp2
    go_ret
    exact ⟨by rw [HV.out]; rfl, rfl⟩
  · have hd : decide (b < 1) = false := by simpa using h
    by_cases h2 : 15 < b
    · have HV := Aside0.mk (show oddB b = true by simp [oddB, h2])
      have hd2 : decide (15 < b) = true := by simpa using h2
      go_enter Try.func17, Try.ntmps17
      go_wp2
      go_ret
      exact ⟨by rw [HV.out]; rfl, rfl⟩
    · have HV := Aside0.mk (show oddB b = false by simp [oddB, h, h2])
      have hd2 : decide (15 < b) = false := by simpa using h2
      go_enter Try.func17, Try.ntmps17
      go_wp2
      go_ret
      exact ⟨by rw [HV.out]; rfl, rfl⟩
def IxPost (zs : List Int) (w : World) (e : Ending) (w' : World) : Prop := ∃ r : Int, e = .returned (.int .i64 r) ∧ decide (0 ≤ r) = zs.any oddB ∧ w = w'
theorem any_take (zs : List Int) (k : Nat) (h : k < zs.length) : (zs.take (k + 1)).any oddB = ((zs.take k).any oddB || oddB (rd zs k)) := by
  rw [List.take_succ_eq_append_getElem h, List.any_append]
  simp [rd, List.getD_eq_getElem?_getD, List.getElem?_eq_getElem h]
theorem any_of_take (zs : List Int) (k : Nat) (h : k < zs.length) (ho : oddB (rd zs k) = true) : zs.any oddB = true := by
  have h1 := any_take zs k h
  rw [ho, Bool.or_true] at h1
  rw [List.any_eq_true] at h1 ⊢
  obtain ⟨x, hx, hp⟩ := h1
  exact ⟨x, List.mem_of_mem_take hx, hp⟩
set_option maxHeartbeats 2000000 in
set_option maxRecDepth 100000 in
theorem indexFunc_c (A : Option Addr) (c : Nat) (zs : List Int) (w : World) (hC : Kd.C (Kd.int .i64) w A zs.length zs) (hl : zs.length * 8 ≤ 140737488351232) :
    Calls Try.prog 33 #[.slice A zs.length c, .func (.func 17) #[] #[]] w (IxPost zs w) := by
  have HC := Aside0.mk hC
  clear hC
  go_enter Try.func33, Try.ntmps33
  go_wp2
  go_loop [8] (fun i => ∃ k : Nat, k ≤ zs.length ∧ i = .int .i64 k ∧ (zs.take k).any oddB = false) (fun i => zs.length - (intOf i).toNat)
  case atStart => exact ⟨0, Nat.zero_le _, rfl, by simp⟩
  case round =>
    obtain ⟨k, hk, rfl, hno⟩ := hrel
    have HNO := Aside0.mk hno
    clear hno
    by_cases hlt : k < zs.length
    · obtain ⟨ad, rfl, _⟩ := HC.out.2.2 (by omega)
      have hcell := Kd.foot_int HC.out (k : Int) (by omega) (by omega)
      simp only [Int.toNat_natCast] at hcell
      have hd : decide ((k : Int) < (zs.length : Int)) = true := by simpa using hlt
      have hw : wrap64 ((k : Int) + 1) = ((k + 1 : Nat) : Int) := by unfold wrap64; omega
      have HW := Aside0.mk hw
      clear hw
      have HAT := Aside0.mk (any_take zs k hlt)
      have HAO := Aside0.mk (any_of_take zs k hlt)
      have HO := Aside0.mk (odd_c (rd zs k) w)
      generalize rd zs k = x at hcell HAT HAO HO
      generalize hob : oddB x = ob at HAT HAO HO
      clear hob
      cases ob with
      | false =>
        go_wp2_with (go_at_call 17; refine HO.out.mono ?_; rintro e w' ⟨rfl, rfl⟩)
        go_round
        case rel => exact ⟨k + 1, by omega, by first | rfl | rw [HW.out], by rw [HAT.out, HNO.out]; rfl⟩
        case measure => simp [intOf]; omega
      | true =>
        go_wp2_with (go_at_call 17; refine HO.out.mono ?_; rintro e w' ⟨rfl, rfl⟩)
        go_ret
        exact ⟨_, rfl, by rw [HAO.out (by first | rfl | trivial)]; simp, rfl⟩
    · have hkl : k = zs.length := by omega
      have HK := Aside0.mk hkl
      have hd : decide ((k : Int) < (zs.length : Int)) = false := by simpa using hlt
      clear hkl
      go_wp2
      go_ret
      exact ⟨-1, rfl, by have h := HNO.out; rw [HK.out, List.take_length] at h; rw [h]; rfl, rfl⟩
theorem containsFunc_c (A : Option Addr) (c : Nat) (zs : List Int) (w : World) (hC : Kd.C (Kd.int .i64) w A zs.length zs) (hl : zs.length * 8 ≤ 140737488351232) :
    Calls Try.prog 16 #[.slice A zs.length c, .func (.func 17) #[] #[]] w fun e w' => e = .returned (.bool (zs.any oddB)) ∧ w = w' := by
  have HI := Aside0.mk (indexFunc_c A c zs w hC hl)
  clear hC
  go_enter Try.func16, Try.ntmps16
  go_wp2_with (go_at_call 33; refine HI.out.mono ?_; rintro e w' ⟨r, rfl, hr, rfl⟩; have HR := Aside0.mk hr; clear hr)
  go_ret
  exact ⟨by rw [← HR.out]; rfl, rfl⟩
theorem addr_plain {W : World} {l : List Int} {ad : Addr} (hC : Kd.C (Kd.int .i64) W (some ad) l.length l) (hp : 0 < l.length) : ad.spot = none ∧ ad.block < W.heap.size := by
  have h := Kd.foot_int hC 0 (Int.le_refl _) (by omega)
  have e : ad.add (0 : Int).toNat = ad := by simp [Addr.add]
  rw [e] at h
  refine ⟨?_, World.block_lt_of_cell? _ _ h⟩
  unfold World.cell? at h
  split at h
  · split at h
    · cases h
    · rename_i hs
      cases hq : ad.spot with
      | none => rfl
      | some x => rw [hq] at hs; simp at hs
  · cases h
theorem ints_of {W W0 : World} {A : Option Addr} {k : Nat} {l : List Int} (hC0 : Kd.C (Kd.int .i64) W0 A l.length l) (hC : Kd.C (Kd.int .i64) W A l.length l) : Ints W0.heap.size W (.slice A l.length k) l := by
  cases l with
  | nil => exact .inl ⟨A, k, rfl, rfl⟩
  | cons x l =>
    obtain ⟨ad, rfl, _⟩ := hC0.2.2 (by simp)
    obtain ⟨hs, hb⟩ := addr_plain hC0 (by simp)
    obtain ⟨b, off, sp⟩ := ad
    simp only at hs hb
    subst hs
    refine .inr ⟨b, off, k, rfl, hb, fun j hj => ?_⟩
    have h := Kd.foot_int hC (j : Int) (by omega) (by omega)
    simp only [Int.toNat_natCast, rd, List.getD_eq_getElem?_getD] at h
    rw [show (⟨b, off, none⟩ : Addr).add j = ⟨b, off + j, none⟩ by unfold Addr.add; split <;> simp_all] at h
    exact h
theorem values_c (A : Option Addr) (n k : Nat) (w : World) : Calls Try.prog 19 #[.slice A n k] w fun e w' => e = .returned (.func (.func 36) #[] #[.pointer (some ⟨w.heap.size, 0, none⟩)]) ∧ w' = w.alloc (.cells #[.slice A n k] 23) := by
  go_enter Try.func19, Try.ntmps19
  go_wp2
  go_ret
  exact ⟨rfl, rfl⟩
def countB (n : Int) : Bool := (client_count.f n).getD false
theorem count_f (n : Int) : client_count.f n = some (countB n) := by
  obtain ⟨b, hb⟩ := count_some n
  unfold countB
  rw [hb]
  rfl
def srt (l : List Int) : List Int := l.mergeSort fun x y => decide (x ≤ y)
/-- Compact at a row that is the call's own. -/
theorem compact_c (W : World) (base : Nat) (v : Value) (zs : List Int) (h : W.ownsRow base 3 1 v zs.length (zs.map (Value.int .i64))) (hbase : base ≤ W.heap.size) (hz : 0 < zs.length) :
    Calls Try.prog 21 #[v] W fun e w' => ∃ p c, e = .returned (.slice p (Lib.compact zs).length c) ∧ Below base W w' := by
  rcases h.2 with ⟨rfl, h0⟩ | ⟨gb, cap, cur, rfl, hb, hgb, r1, r2, r3, r4⟩
  · omega
  · have hH : Go.Sort.Holds (Value.int .i64) W gb 0 zs.toArray := holds_of_block_i hgb (by simpa using r4)
    refine (Try.slices_Compact_int gb 0 cap zs W hH (by simp only [maxLen] at r2; omega) r1).mono ?_
    rintro e w' ⟨rfl, q, rfl⟩
    refine ⟨_, _, rfl, ?_⟩
    have hg := grownBy_sorted_i (w := W) (g := gb) (n := q) (os := #[]) (Lib.compact zs ++ List.replicate (zs.length - (Lib.compact zs).length) 0).toArray
    have e : ∀ X : World, Go.Sort.grow X #[] = X := fun X => by simp [Go.Sort.grow]
    rw [e] at hg
    exact (Below.refl base W).grown hg hbase (fun j hj => by cases hj; exact hb)
end Go.Proofs.Ytajnladoomkgaaa.Cli
