/- The examples of chapter 05. -/
import Derived.Test.YtnaefndclalepaaSt
import Derived.Lib.SlBytesConst
namespace Go.Proofs.Ytnaefndclalepaa.Net
set_option linter.unusedVariables false
set_option linter.unusedSimpArgs false
open Go.RowKit Go.Shelf Go.Proofs.YtnaefndclalepaaW.PrintWords Go.Proofs.YtnaefndclalepaaW.PrintLast Go.Proofs.YtnaefndclalepaaW.PrintMore Go.Proofs.Ytnaefndclalepaa.XN
theorem byte_C (W : World) (x : Int) : Kd.C (Kd.int .u8) (W.alloc (.cells #[.int .u8 x] 5 (1, 2))) (some ⟨W.heap.size, 0, none⟩) [x].length [x] := by
  refine ⟨rfl, by simp, fun _ => ⟨_, rfl, fun j p hj => ?_⟩⟩
  have hc : (W.alloc (.cells #[.int .u8 x] 5 (1, 2))).cell? ⟨W.heap.size, 0, none⟩ = some (.int .u8 x) := by
    have := heap_alloc_new W (.cells #[.int .u8 x] 5 (1, 2))
    simp only [World.cell?, this]
    rfl
  match j, hj with
  | 0, hj =>
    injection hj with hj
    subst hj
    refine ⟨[.int .u8 x], rfl, rfl, fun i u hi => ?_⟩
    match i, hi with
    | 0, hi =>
      injection hi with hi
      subst hi
      exact hc
    | i + 1, hi => simp at hi
  | j + 1, hj => simp at hj
def aw0 : NetS := ⟨[], 64, 3, fun _ => false⟩
def aw1 : NetS := sendN aw0 1 2 [97]
def aw2 : NetS := sendN aw1 1 3 [98]
def aw3 : NetS := dlvN aw2 0
def aw4 : NetS := aw3.link 3 1 true
def aw5 : NetS := dlvN aw4 0
def aw6 : NetS := sendN aw5 1 3 []
def aw7 : NetS := aw6.link 1 3 false
def aw8 : NetS := dblN aw7 0
theorem aw_r : (atM aw2 1).f1 = 3 ∧ atE aw2 1 = 0 ∧ (dlvM aw2 0).f2 = [97] ∧ dlvE aw2 0 = 0 ∧ aw3.all.length = 1 ∧ dlvE aw4 0 = 6 ∧ sendE aw5 1 3 [] = 6 ∧ dblE aw7 0 = 0 ∧ findI aw8 3 1 = 1 ∧ findB aw8 3 1 = true ∧ sendE aw8 1 1 [] = 1 := by
  refine ⟨?_, ?_, ?_, ?_, ?_, ?_, ?_, ?_, ?_, ?_, ?_⟩ <;> kernel_rfl
theorem nil_C (W : World) : Kd.C (Kd.int .u8) W none ([] : List Int).length [] := Kd.C_nil _ W
theorem aw_y {w W4 W : World} {q Q : Nat → Prop} {A : Option Addr} {c : Nat} {l : List Int} (hR : Kd.R (Kd.int .u8) 5 W4 w.heap.size q (.slice A l.length c) l) (hq : ∀ k, q k → Q k) (hK : Keeps Q W4 W) : (convert 24 9 (.slice A l.length c)).run Try.prog W = .ok (.string (strOfNums l)) W :=
  Kd.C_string Try.underlying24 Try.underlying5 Try.underlying9 (Kd.F_now (Kd.F_step (Kd.R_F hR) (fun k hk _ => hK.2 k (hq k hk))))
set_option maxHeartbeats 8000000 in
set_option maxRecDepth 100000 in
theorem awake_c (w : World) : Calls Try.prog 8 #[] w fun e w' => e = .returned (.bool true) ∧ Below w.heap.size w w' := by
  have kc := fun (w : World) (C : Array Value) (n c : Nat) => Lib.run_convert_bytes_const (P := Try.prog) w 24 5 C n c Try.underlying24 Try.underlying5
  have e1 : ((atM aw2 1).f1 == 3) = true := by rw [aw_r.1]; rfl
  have e2 : (atE aw2 1 == 0) = true := by rw [aw_r.2.1]; rfl
  have e3 : (strOfNums (dlvM aw2 0).f2).toList = [97] := by rw [aw_r.2.2.1]; kernel_rfl
  have e4 : (dlvE aw2 0 == 0) = true := by rw [aw_r.2.2.2.1]; rfl
  have e5 : ((aw3.all.length : Int) == 1) = true := by rw [aw_r.2.2.2.2.1]; rfl
  have e6 : (dlvE aw4 0 == 6) = true := by rw [aw_r.2.2.2.2.2.1]; rfl
  have e7 : (sendE aw5 1 3 [] == 6) = true := by rw [aw_r.2.2.2.2.2.2.1]; rfl
  have e8 : (dblE aw7 0 == 0) = true := by rw [aw_r.2.2.2.2.2.2.2.1]; rfl
  have e9 : (findI aw8 3 1 == 1) = true := by rw [aw_r.2.2.2.2.2.2.2.2.1]; rfl
  have e10 : findB aw8 3 1 = true := aw_r.2.2.2.2.2.2.2.2.2.1
  have e11 : (sendE aw8 1 1 [] == 1) = true := by rw [aw_r.2.2.2.2.2.2.2.2.2.2]; rfl
  go_enter Try.func8, Try.ntmps8
  go_wp2_with (first
    | (go_at_call 9; refine (St.new_ (w0 := w) (W := w) (Q := fun _ => False) (fun _ h => h.elim) (Below.refl _ _) 3 (by decide) (by decide)).mono ?_; rintro e W1 ⟨rfl, hS, hK⟩; have S0 : Aside0 (St w W1 (some ⟨w.heap.size, 0, none⟩) aw0 (fun _ => False)) := Aside0.mk hS; clear hS hK)
    | (go_at_call 10; refine (((S0.out.alloc (.cells #[.int .u8 97] 5 (1, 2))).weak (fun k hk => .inl hk)).send_ 1 2 _ _ [97] (byte_C _ _) (Nat.le_refl _)).mono ?_; rintro e W2 ⟨rfl, hS, hK⟩; have S1 : Aside0 (St w W2 (some ⟨w.heap.size, 0, none⟩) aw1 (fun _ => False)) := Aside0.mk hS; clear hS hK S0)
    | (go_at_call 10; refine (((S1.out.alloc (.cells #[.int .u8 98] 5 (1, 2))).weak (fun k hk => .inl hk)).send_ 1 3 _ _ [98] (byte_C _ _) (Nat.le_refl _)).mono ?_; rintro e W3 ⟨rfl, hS, hK⟩; have S2 : Aside0 (St w W3 (some ⟨w.heap.size, 0, none⟩) aw2 (fun _ => False)) := Aside0.mk hS; clear hS hK S1)
    | (go_at_call 16; refine (S2.out.at_ 1).mono ?_; rintro e W4 ⟨vb, rfl, q, hR, hq, hS, hK⟩; obtain ⟨Ab, cb, rfl⟩ := Kd.R_slice hR; have S3 : Aside0 (St w (W4.alloc (.cells #[.int .i64 (atM aw2 1).f0, .int .i64 (atM aw2 1).f1, .slice Ab (atM aw2 1).f2.length cb] 33)) (some ⟨w.heap.size, 0, none⟩) aw2 (fun k => k = W4.heap.size)) := Aside0.mk ((hS.alloc _).weak (fun k hk => .inr hk)); have BX := Aside0.mk (heap_alloc_new W4 (.cells #[.int .i64 (atM aw2 1).f0, .int .i64 (atM aw2 1).f1, .slice Ab (atM aw2 1).f2.length cb] 33)); clear hS hK S2 hR hq)
    | (go_at_call 12; refine (S3.out.dlv_ 0).mono ?_; rintro e W5 ⟨vy, rfl, q2, hR, hq, hS, hK⟩; obtain ⟨Ay, cy, rfl⟩ := Kd.R_slice hR; have S4 : Aside0 (St w (W5.alloc (.cells #[.int .i64 (dlvM aw2 0).f0, .int .i64 (dlvM aw2 0).f1, .slice Ay (dlvM aw2 0).f2.length cy] 33)) (some ⟨w.heap.size, 0, none⟩) aw3 (fun k => (k = W4.heap.size ∨ q2 k) ∨ k = W5.heap.size)) := Aside0.mk (hS.alloc _); have BX5 := Aside0.mk (blk_alloc ((hK.2 _ rfl).trans BX.out) (.cells #[.int .i64 (dlvM aw2 0).f0, .int .i64 (dlvM aw2 0).f1, .slice Ay (dlvM aw2 0).f2.length cy] 33)); have BY5 := Aside0.mk (heap_alloc_new W5 (.cells #[.int .i64 (dlvM aw2 0).f0, .int .i64 (dlvM aw2 0).f1, .slice Ay (dlvM aw2 0).f2.length cy] 33)); have RY5 := Aside0.mk (Kd.R_alloc hR (.cells #[.int .i64 (dlvM aw2 0).f0, .int .i64 (dlvM aw2 0).f1, .slice Ay (dlvM aw2 0).f2.length cy] 33)); have K5 := Aside0.mk (Keeps.refl (fun k => (k = W4.heap.size ∨ q2 k) ∨ k = W5.heap.size) (W5.alloc (.cells #[.int .i64 (dlvM aw2 0).f0, .int .i64 (dlvM aw2 0).f1, .slice Ay (dlvM aw2 0).f2.length cy] 33))); clear hS hK S3 BX hR hq)
    | (go_at_call 11; refine S4.out.len_.mono ?_; rintro e W6 ⟨rfl, rfl⟩)
    | (go_at_call 18; refine (S4.out.cut_ 3 1).mono ?_; rintro e W6 ⟨rfl, hS, hK⟩; have S5 : Aside0 (St w W6 (some ⟨w.heap.size, 0, none⟩) aw4 (fun k => (k = W4.heap.size ∨ q2 k) ∨ k = W5.heap.size)) := Aside0.mk hS; have K6 := Aside0.mk (K5.out.trans hK); clear hS hK S4 K5)
    | (go_at_call 12; refine (S5.out.dlv_ 0).mono ?_; rintro e W7 ⟨vz, rfl, q3, hR, hq, hS, hK⟩; obtain ⟨Az, cz, rfl⟩ := Kd.R_slice hR; have S6 : Aside0 (St w (W7.alloc (.cells #[.int .i64 (dlvM aw4 0).f0, .int .i64 (dlvM aw4 0).f1, .slice Az (dlvM aw4 0).f2.length cz] 33)) (some ⟨w.heap.size, 0, none⟩) aw5 (fun k => (k = W4.heap.size ∨ q2 k) ∨ k = W5.heap.size)) := Aside0.mk ((hS.alloc _).weak (fun k hk => .inl (.inl hk))); have K7 := Aside0.mk ((K6.out.trans hK).trans (Keeps.alloc _ _ (.cells #[.int .i64 (dlvM aw4 0).f0, .int .i64 (dlvM aw4 0).f1, .slice Az (dlvM aw4 0).f2.length cz] 33) (fun k hk => hS.lt k (.inl hk)))); clear hS hK S5 K6 hR hq)
    | (go_at_call 10; refine (S6.out.send_ 1 3 none 0 [] (nil_C _) (Nat.le_refl _)).mono ?_; rintro e W8 ⟨rfl, hS, hK⟩; have S7 : Aside0 (St w W8 (some ⟨w.heap.size, 0, none⟩) aw6 (fun k => (k = W4.heap.size ∨ q2 k) ∨ k = W5.heap.size)) := Aside0.mk hS; have K8 := Aside0.mk (K7.out.trans hK); clear hS hK S6 K7)
    | (go_at_call 19; refine (S7.out.heal_ 1 3).mono ?_; rintro e W9 ⟨rfl, hS, hK⟩; have S8 : Aside0 (St w W9 (some ⟨w.heap.size, 0, none⟩) aw7 (fun k => (k = W4.heap.size ∨ q2 k) ∨ k = W5.heap.size)) := Aside0.mk hS; have K9 := Aside0.mk (K8.out.trans hK); clear hS hK S7 K8)
    | (go_at_call 17; refine (S8.out.dbl_ 0).mono ?_; rintro e W10 ⟨rfl, hS, hK⟩; have S9 : Aside0 (St w W10 (some ⟨w.heap.size, 0, none⟩) aw8 (fun k => (k = W4.heap.size ∨ q2 k) ∨ k = W5.heap.size)) := Aside0.mk hS; have K10 := Aside0.mk (K9.out.trans hK); clear hS hK S8 K9)
    | (go_at_call 24; refine (S9.out.find_ 3 1).mono ?_; rintro e W11 ⟨rfl, hS, hK⟩; have S10 : Aside0 (St w W11 (some ⟨w.heap.size, 0, none⟩) aw8 (fun k => (k = W4.heap.size ∨ q2 k) ∨ k = W5.heap.size)) := Aside0.mk hS; have K11 := Aside0.mk (K10.out.trans hK); clear hS hK S9 K10; have x1 := (cells_at ((K11.out.2 _ (.inl (.inl rfl))).trans BX5.out) (j := 1) rfl).1; have y2 := (cells_at ((K11.out.2 _ (.inr rfl)).trans BY5.out) (j := 2) rfl).1; have hcy := aw_y RY5.out (fun k hk => .inl (.inr hk)) K11.out)
    | (go_at_call 10; refine (S10.out.send_ 1 1 none 0 [] (nil_C _) (Nat.le_refl _)).mono ?_; rintro e W12 ⟨rfl, hS, hK⟩; have S11 := Aside0.mk hS.below; clear hS hK))
  all_goals first
    | exact absurd e3 (by assumption)
    | (go_ret; exact ⟨rfl, S11.out⟩)
end Go.Proofs.Ytnaefndclalepaa.Net
