/- The messages from the first on, by their numbers. -/
import Derived.Test.YtnaefndclalepaaBrg
namespace Go.Proofs.Ytnaefndclalepaa.Net
set_option linter.unusedVariables false
set_option linter.unusedSimpArgs false
open Go.RowKit Go.Shelf Go.Proofs.YtnaefndclalepaaW.PrintWords Go.Proofs.YtnaefndclalepaaW.PrintLast Go.Proofs.YtnaefndclalepaaW.PrintMore Go.Proofs.Ytnaefndclalepaa.XN
attribute [local go_sem] Oper.semAt_some
theorem fin_take (N m : Nat) (h : m < N) : (List.finRange N).take m ++ [(⟨m, h⟩ : Fin N)] = (List.finRange N).take (m + 1) := by
  rw [List.take_succ_eq_append_getElem (by simpa using h)]
  simp
set_option maxRecDepth 100000 in
set_option maxHeartbeats 4000000 in
theorem fromF_in (F : Fence) (n : Nat) (h47 : F.fn 47) (hro : F.round = none) (hn : 1 ≤ n) (l Bi Bb g b cap n1 : Nat) (S : Nat → Prop) (w : World) (all : List S33) (hl : all.length < 1000000) (hBi : Bi < n1 ∧ ¬ S Bi) (hBb : Bb < n1 ∧ ¬ S Bb) (hg : g < n1 ∧ ¬ S g) (hrow : 0 < all.length → RowAt w n1 S b all)
    (J Jx : List (Fin all.length) → World → Prop)
    (hY : ∀ pre x W, J pre W → pre.length < all.length → YieldAt F (n - 1) Try.prog l #[.int .i64 (x.val : Int), rawV (rawAt w b all x.val)] W fun e W' =>
      (e = .returned (.bool true) ∧ J (pre ++ [x]) W' ∧ Kq n1 S W W') ∨ (e = .returned (.bool false) ∧ Jx (pre ++ [x]) W'))
    (W : World) (hW : Kq n1 S w W) (hci : w.cell? ⟨Bi, 0, none⟩ = some (.int .i64 0)) (hcb : w.cell? ⟨Bb, 0, none⟩ = some (.pointer (some ⟨g, 0, none⟩))) (A : Option Addr) (hA : 0 < all.length → A = some ⟨b, 0, none⟩) (hcg : w.cell? ⟨g, 0, none⟩ = some (.slice A all.length cap)) (h0 : J [] W) :
    CallsIn F n Try.prog 47 #[.func (.yield l) #[] #[], .pointer (some ⟨Bi, 0, none⟩), .pointer (some ⟨Bb, 0, none⟩)] W fun e W' => (∃ v, e = .returned v) ∧
      ((∃ ys, ys = List.finRange all.length ∧ J ys W') ∨ (∃ pre, (∃ k, k ≤ all.length ∧ pre = (List.finRange all.length).take k) ∧ Jx pre W')) := by
  have d0 : W.cell? ⟨Bi, 0, none⟩ = some (.int .i64 0) := (hW.cell (p := ⟨Bi, 0, none⟩) hBi.1 hBi.2).trans hci
  refine callsIn_of_wp Try.func47 rfl h47 ?_ hro
  simp only [Try.ntmps47, List.size_toArray, List.length_cons, List.length_nil, Nat.reduceAdd, Nat.reduceSub, Array.replicate_succ, Array.replicate_zero, List.push_toArray, List.append_toArray, List.nil_append, List.cons_append]
  gi_wp2
  all_goals (
    gi_loopw [4] (fun p wr => ∃ m : Nat, m ≤ all.length ∧ p = .int .i64 m ∧ J ((List.finRange all.length).take m) wr ∧ Kq n1 S w wr)
      (fun p _ => all.length - (intOf p).toNat)
    case atStart => exact ⟨0, Nat.zero_le _, rfl, h0, hW⟩
    case round =>
      obtain ⟨m, hm2, rfl, hJs, hnx⟩ := hrel
      have d1 : wr.cell? ⟨Bb, 0, none⟩ = some (.pointer (some ⟨g, 0, none⟩)) := (hnx.cell (p := ⟨Bb, 0, none⟩) hBb.1 hBb.2).trans hcb
      have d2 : wr.cell? ⟨g, 0, none⟩ = some (.slice A all.length cap) := (hnx.cell (p := ⟨g, 0, none⟩) hg.1 hg.2).trans hcg
      by_cases hlt : m < all.length
      · have hrow := hrow (by omega)
        obtain rfl := hA (by omega)
        have hr := hrow.2.2 m hlt
        have e0 := (hnx.cell (p := ⟨b, m * 3, none⟩) hrow.1 hrow.2.1).trans hr.1
        have e1 := (hnx.cell (p := ⟨b, m * 3 + 1, none⟩) hrow.1 hrow.2.1).trans hr.2.1
        have e2 := (hnx.cell (p := ⟨b, m * 3 + 2, none⟩) hrow.1 hrow.2.1).trans hr.2.2
        obtain ⟨fn, tmps, assign, body, hy, hR⟩ := hY _ ⟨m, hlt⟩ wr hJs (by simp; omega)
        rw [fin_take] at hR
        have hlt' : (m : Int) < (all.length : Int) := by omega
        have hq : wrap64 ((m : Int) + 1) = (m : Int) + 1 := by unfold wrap64; omega
        dsimp only at hy hR
        generalize rawAt w b all m = r at *
        dsimp only [rawV] at hy
        clear hr hY
        gi_wp2
        refine hR.mono ?_
        rintro e W3 (⟨rfl, hJ3, hk3⟩ | ⟨rfl, hJx3⟩)
        · gi_wp2
          go_roundw
          case rel => exact ⟨m + 1, by omega, by simp, hJ3, hnx.t hk3⟩
          case measure => simp [intOf]; omega
        · gi_wp2
          refine bodyPost_ret (results_none rfl _ _ _) rfl ?_
          exact ⟨⟨_, rfl⟩, .inr ⟨_, ⟨m + 1, by omega, rfl⟩, hJx3⟩⟩
      · have hge : ¬ (m : Int) < (all.length : Int) := by omega
        have hd : decide ((m : Int) < (all.length : Int)) = false := by simpa using hge
        clear hY
        gi_wp2
        go_end0
        refine ⟨⟨_, rfl⟩, .inl ?_⟩
        rw [List.take_of_length_le (by simp; omega)] at hJs
        exact hJs)
theorem fromF_stops (F : Fence) (n : Nat) (h47 : F.fn 47) (hro : F.round = none) (hn : 1 ≤ n) (Bi Bb g b cap n1 : Nat) (S : Nat → Prop) (w : World) (all : List S33) (hl : all.length < 1000000) (hBi : Bi < n1 ∧ ¬ S Bi) (hBb : Bb < n1 ∧ ¬ S Bb) (hg : g < n1 ∧ ¬ S g) (hrow : 0 < all.length → RowAt w n1 S b all)
    (hn1 : n1 ≤ w.heap.size) (hci : w.cell? ⟨Bi, 0, none⟩ = some (.int .i64 0)) (hcb : w.cell? ⟨Bb, 0, none⟩ = some (.pointer (some ⟨g, 0, none⟩))) (A : Option Addr) (hA : 0 < all.length → A = some ⟨b, 0, none⟩) (hcg : w.cell? ⟨g, 0, none⟩ = some (.slice A all.length cap)) :
    SeqStopsK F n Try.prog 47 #[.pointer (some ⟨Bi, 0, none⟩), .pointer (some ⟨Bb, 0, none⟩)] (fun x : Fin all.length => #[Value.int .i64 (x.val : Int), rawV (rawAt w b all x.val)]) (Kq n1 S) (fun ys => ys = List.finRange all.length)
      (fun pre => ∃ k, k ≤ all.length ∧ pre = (List.finRange all.length).take k) all.length w := fun l J Jx W hW _ _ hY h0 =>
  fromF_in F n h47 hro hn l Bi Bb g b cap n1 S w all hl hBi hBb hg hrow J Jx hY W (Kq.below (hW.mono hn1)) hci hcb A hA hcg h0
/-- A row of messages made since B: each message's bytes in a block of their own. -/
def RowC (W : World) (B : Nat) (v : Value) (xs : List S33) : Prop :=
  ∃ rows : List (List Value), rows.length = xs.length ∧ (Kd.raw k33.sz).R 33 W B (fun k => some k = v.ownBlock) v rows ∧
    ∀ (j : Nat) (x : S33) (c : List Value), xs[j]? = some x → rows[j]? = some c → ∃ vb, c = [.int .i64 x.f0, .int .i64 x.f1, vb] ∧ Kd.R (Kd.int .u8) 5 W B (fun k => some k = vb.ownBlock) vb x.f2 ∧ (∀ k, vb.ownBlock = some k → v.ownBlock ≠ some k)
theorem RowC.nil (W : World) (B : Nat) : RowC W B (.slice none 0 0) [] := ⟨[], rfl, Kd.raw_tight (Kd.R_nil _ _ _ _ (fun _ => False)), fun j x c h => by simp at h⟩
theorem RowC.step {W W' : World} {B : Nat} {v : Value} {xs : List S33} (h : RowC W B v xs) (hk : ∀ k cs T fr, B ≤ k → W.heap[k]? = some (.cells cs T fr) → W'.heap[k]? = W.heap[k]?) : RowC W' B v xs := by
  obtain ⟨rows, h1, h2, h3⟩ := h
  refine ⟨rows, h1, Kd.R_step h2 (fun k hk' hlt => ?_), fun j x c hx hc => ?_⟩
  · obtain ⟨cs, hcs⟩ := Kd.R_typed h2 k hk'.symm
    exact hk k cs _ _ (Kd.R_base h2 k hk'.symm) hcs
  · obtain ⟨vb, e, hR, hn⟩ := h3 j x c hx hc
    refine ⟨vb, e, Kd.R_step hR (fun k hk' hlt => ?_), hn⟩
    obtain ⟨cs, hcs⟩ := Kd.R_typed hR k hk'.symm
    exact hk k cs _ _ (Kd.R_base hR k hk'.symm) hcs
theorem RowC.N {W : World} {B : Nat} {v : Value} {xs : List S33} (h : RowC W B v xs) : Kd.N k33 33 W B (fun k => B ≤ k) v xs := by
  obtain ⟨rows, h1, h2, h3⟩ := h
  refine ⟨fun k hk => Kd.R_base h2 k hk, rows, h1, h2, fun j x c hx hc => ?_⟩
  obtain ⟨vb, rfl, hR, hn⟩ := h3 j x c hx hc
  exact Kd.FK_mono (Kd.FK_of_M (k33_mkM W B (fun k => some k = vb.ownBlock) x hR)) (fun k hk => ⟨Kd.R_base hR k hk.symm, fun e => hn k hk.symm e.symm⟩)
theorem RowC.push {W w1 : World} {B : Nat} {v v1 vb : Value} {xs : List S33} {x : S33} {rows : List (List Value)} (h1 : rows.length = xs.length) (h3 : ∀ (j : Nat) (x : S33) (c : List Value), xs[j]? = some x → rows[j]? = some c → ∃ vb, c = [.int .i64 x.f0, .int .i64 x.f1, vb] ∧ Kd.R (Kd.int .u8) 5 W B (fun k => some k = vb.ownBlock) vb x.f2 ∧ (∀ k, vb.ownBlock = some k → v.ownBlock ≠ some k))
    (hR : (Kd.raw k33.sz).R 33 w1 B (fun _ => True) v1 (rows ++ [[.int .i64 x.f0, .int .i64 x.f1, vb]])) (hb : Kd.R (Kd.int .u8) 5 W B (fun k => some k = vb.ownBlock) vb x.f2) (hne : ∀ k, vb.ownBlock = some k → v.ownBlock ≠ some k) (hg : W.grownBy w1 v.ownBlock) (hat : v1.ownBlock = v.ownBlock ∨ ∃ b, v1.ownBlock = some b ∧ W.heap.size ≤ b) : RowC w1 B v1 (xs ++ [x]) := by
  have key : ∀ {vb : Value} {l : List Int}, Kd.R (Kd.int .u8) 5 W B (fun k => some k = vb.ownBlock) vb l → (∀ k, vb.ownBlock = some k → v.ownBlock ≠ some k) → Kd.R (Kd.int .u8) 5 w1 B (fun k => some k = vb.ownBlock) vb l ∧ (∀ k, vb.ownBlock = some k → v1.ownBlock ≠ some k) := by
    intro vb l hR hn
    refine ⟨Kd.R_step hR (fun k hk hlt => hg.block k hlt (fun e => hn k hk.symm e.symm)), fun k hk e => ?_⟩
    rcases hat with h | ⟨b, h, hle⟩
    · exact hn k hk (h ▸ e)
    · rw [h] at e
      injection e with e
      have := Kd.R_lt hR k hk
      omega
  refine ⟨rows ++ [[.int .i64 x.f0, .int .i64 x.f1, vb]], by simp [h1], Kd.raw_tight hR, fun j y c hy hc => ?_⟩
  by_cases hj : j < xs.length
  · rw [List.getElem?_append_left hj] at hy
    rw [List.getElem?_append_left (by omega)] at hc
    obtain ⟨vb', e, hR', hn'⟩ := h3 j y c hy hc
    obtain ⟨k1, k2⟩ := key hR' hn'
    exact ⟨vb', e, k1, k2⟩
  · rw [List.getElem?_append_right (by omega)] at hy
    rw [List.getElem?_append_right (by omega)] at hc
    have hj0 : j - xs.length = 0 := by
      have := (List.getElem?_eq_some_iff.1 hy).1
      simp at this
      omega
    rw [hj0] at hy
    rw [h1, hj0] at hc
    simp at hy hc
    subst hy
    subst hc
    obtain ⟨k1, k2⟩ := key hb hne
    exact ⟨vb, rfl, k1, k2⟩
theorem RowC.app_step {W w0 : World} {B : Nat} {v vb : Value} {xs : List S33} {x : S33} {ops : Array Oper} {Q : Exit → Act → World → Prop} {Kc : Act → World → Prop} {o : Oper} {a : Act} (h0 : RowC W B v xs) (hw : Region.wanted o (yielded ops a.tmps) = true) (s y : Operand) (ho : o.op = .call { callee := .builtin .append, args := #[s, y], argTypes := #[39, 39] })
    (hs : a.eval s = v) {b : Nat} (hy : a.eval y = .slice (some ⟨b, 0, none⟩) 1 1) (hbz : b = W.heap.size) (hb : Kd.R (Kd.int .u8) 5 W B (fun k => some k = vb.ownBlock) vb x.f2) (hne : ∀ k, vb.ownBlock = some k → v.ownBlock ≠ some k) (HB : Below B w0 W) (hbase : B ≤ W.heap.size) (hl : xs.length ≤ 1000000)
    (h : ∀ A1 c1 w1, RowC w1 B (.slice A1 (xs ++ [x]).length c1) (xs ++ [x]) → Below B w0 w1 → W.grownBy w1 v.ownBlock → Kc (a.put o.dst (.slice A1 (xs ++ [x]).length c1)) w1) :
    if Region.wanted o (yielded ops a.tmps) = true then Oper.wp Try.prog o a (W.alloc (.cells #[.int .i64 x.f0, .int .i64 x.f1, vb] 33)) Kc Q else Kc (a.put o.dst undef) (W.alloc (.cells #[.int .i64 x.f0, .int .i64 x.f1, vb] 33)) := by
  subst hbz
  obtain ⟨rows, h1, h2, h3⟩ := h0
  obtain ⟨Ab, cb, rfl⟩ := Kd.R_slice hb
  refine Kd.R_append_step (Kd.raw k33.sz) (w0 := w0) (W := W) B hw s y 39 33 _ 40 ho Try.underlying39 info33t rfl (by decide) (by decide) v rows [.int .i64 x.f0, .int .i64 x.f1, .slice Ab x.f2.length cb] [.int .i64 x.f0, .int .i64 x.f1, .slice Ab x.f2.length cb] (fun _ => True) (fun _ => False) hs hy ⟨rfl, rfl, fun u hu => by
    simp at hu
    rcases hu with rfl | rfl | rfl <;> rfl⟩ (fun _ hk => hk.elim) (fun _ _ => trivial) (Kd.raw_any h2) HB hbase (by rw [h1]; omega) ?_
  intro v1 w1 hr hB1 hg hat
  have hp := RowC.push h1 h3 hr hb hne hg hat
  have hv : ∃ A1 c1, v1 = .slice A1 (xs ++ [x]).length c1 := by
    obtain ⟨rows2, r1, r2, _⟩ := hp
    obtain ⟨A1, c1, e⟩ := Kd.R_slice r2
    exact ⟨A1, c1, by rw [e, r1]⟩
  obtain ⟨A1, c1, rfl⟩ := hv
  exact h A1 c1 w1 hp hB1 hg
end Go.Proofs.Ytnaefndclalepaa.Net
