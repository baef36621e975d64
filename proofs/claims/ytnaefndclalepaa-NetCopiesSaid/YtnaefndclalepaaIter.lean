/- The messages from a number on: the function that is ranged over. -/
import Derived.RangeFuncNested
import Derived.RangeFuncBound
import Derived.RangeFuncCalls
import Derived.RangeFuncLeaves
import Derived.Shelf.Abstract
import Derived.Shelf.RegionOpen
import Derived.WalkKit
import Derived.OwnWalkIn
import Derived.TacticsInMore
import Derived.LoopNIn
import Derived.LoopIn
import Derived.Test.YtnaefndclalepaaSnd
namespace Go.Proofs.Ytnaefndclalepaa.Net
set_option linter.unusedVariables false
set_option linter.unusedSimpArgs false
open Go.RowKit Go.Shelf Go.Proofs.YtnaefndclalepaaW.PrintWords Go.Proofs.YtnaefndclalepaaW.PrintLast Go.Proofs.YtnaefndclalepaaW.PrintMore Go.Proofs.Ytnaefndclalepaa.XN
attribute [local go_sem] Oper.semAt_some
/-- A message as it lies: its numbers, its slice. -/
structure Raw where
  f : Int
  t : Int
  A : Option Addr
  n : Nat
  c : Nat
def rawCell (f t : Int) : Option Value → Raw
  | some (.slice A n c) => ⟨f, t, A, n, c⟩
  | _ => ⟨f, t, none, 0, 0⟩
/-- The j-th, in world W, of a row at block b. -/
def rawAt (W : World) (b : Nat) (all : List S33) (j : Nat) : Raw := rawCell (all.getD j z33).f0 (all.getD j z33).f1 (W.cell? ⟨b, j * 3 + 2, none⟩)
def rawV (r : Raw) : Value := .agg #[.int .i64 r.f, .int .i64 r.t, .slice r.A r.n r.c]
/-- What is from number s on. -/
def fromSeq (W : World) (b : Nat) (all : List S33) (s k : Nat) : List (Nat × Raw) := (List.range k).map fun j => (s + j, rawAt W b all (s + j))
theorem fromSeq_succ (W : World) (b : Nat) (all : List S33) (s k : Nat) : fromSeq W b all s (k + 1) = fromSeq W b all s k ++ [(s + k, rawAt W b all (s + k))] := by simp [fromSeq, List.range_succ]
theorem fromSeq_length (W : World) (b : Nat) (all : List S33) (s k : Nat) : (fromSeq W b all s k).length = k := by simp [fromSeq]
/-- What a round that goes on keeps: the blocks below n1, but for S. -/
def Kq (n1 : Nat) (S : Nat → Prop) (W W' : World) : Prop := ∀ k, k < n1 → ¬ S k → W'.heap[k]? = W.heap[k]?
theorem Kq.refl (n1 : Nat) (S : Nat → Prop) (W : World) : Kq n1 S W W := fun _ _ _ => rfl
theorem Kq.t {n1 : Nat} {S : Nat → Prop} {A B C : World} (h : Kq n1 S A B) (k : Kq n1 S B C) : Kq n1 S A C := fun j hj hs => (k j hj hs).trans (h j hj hs)
theorem Kq.b {n1 : Nat} {S : Nat → Prop} {w : World} (hn : n1 ≤ w.heap.size) (W : World) (l : Nat) (o o' : Obj) (hl : w.heap.size ≤ l) (_ : W.heap[l]? = some o) (_ : o.isCells = false) (_ : o.isWalk = false) : Kq n1 S W (W.putObj l o') := fun j hj _ => World.putObj_heap_other (by omega)
theorem Kq.below {n1 : Nat} {S : Nat → Prop} {W W' : World} (h : Below n1 W W') : Kq n1 S W W' := fun j hj _ => h.block j hj
theorem Kq.cell {n1 : Nat} {S : Nat → Prop} {W W' : World} {p : Addr} (h : Kq n1 S W W') (hp : p.block < n1) (hs : ¬ S p.block) : W'.cell? p = W.cell? p := by simp [World.cell?, h p.block hp hs]
/-- The row of messages as it is read. -/
def RowAt (W : World) (n1 : Nat) (S : Nat → Prop) (b : Nat) (all : List S33) : Prop :=
  b < n1 ∧ ¬ S b ∧ ∀ j, j < all.length → W.cell? ⟨b, j * 3, none⟩ = some (.int .i64 (rawAt W b all j).f) ∧ W.cell? ⟨b, j * 3 + 1, none⟩ = some (.int .i64 (rawAt W b all j).t) ∧ W.cell? ⟨b, j * 3 + 2, none⟩ = some (.slice (rawAt W b all j).A (rawAt W b all j).n (rawAt W b all j).c)
set_option maxRecDepth 100000 in
set_option maxHeartbeats 4000000 in
theorem from1_in (F : Fence) (n : Nat) (h47 : F.fn 47) (hro : F.round = none) (hn : 1 ≤ n) (l Bi Bb g b cap n1 : Nat) (S : Nat → Prop) (w : World) (all : List S33) (i : Int) (hl : all.length < 1000000) (hBi : Bi < n1 ∧ ¬ S Bi) (hBb : Bb < n1 ∧ ¬ S Bb) (hg : g < n1 ∧ ¬ S g) (hrow : 0 < all.length → RowAt w n1 S b all)
    (J Jx : List (Nat × Raw) → World → Prop)
    (hY : ∀ pre x W, J pre W → pre.length < all.length - i.toNat → YieldAt F (n - 1) Try.prog l #[.int .i64 (x.1 : Int), rawV x.2] W fun e W' =>
      (e = .returned (.bool true) ∧ J (pre ++ [x]) W' ∧ Kq n1 S W W') ∨ (e = .returned (.bool false) ∧ Jx (pre ++ [x]) W'))
    (W : World) (hW : Kq n1 S w W) (hci : w.cell? ⟨Bi, 0, none⟩ = some (.int .i64 i)) (hcb : w.cell? ⟨Bb, 0, none⟩ = some (.pointer (some ⟨g, 0, none⟩))) (A : Option Addr) (hA : 0 < all.length → A = some ⟨b, 0, none⟩) (hcg : w.cell? ⟨g, 0, none⟩ = some (.slice A all.length cap)) (h0 : J [] W) :
    CallsIn F n Try.prog 47 #[.func (.yield l) #[] #[], .pointer (some ⟨Bi, 0, none⟩), .pointer (some ⟨Bb, 0, none⟩)] W fun e W' => (∃ v, e = .returned v) ∧
      ((∃ ys, ys = fromSeq w b all i.toNat (all.length - i.toNat) ∧ J ys W') ∨ (∃ pre, (∃ k, k ≤ all.length - i.toNat ∧ pre = fromSeq w b all i.toNat k) ∧ Jx pre W')) := by
  have d0 : W.cell? ⟨Bi, 0, none⟩ = some (.int .i64 i) := (hW.cell (p := ⟨Bi, 0, none⟩) hBi.1 hBi.2).trans hci
  refine callsIn_of_wp Try.func47 rfl h47 ?_ hro
  simp only [Try.ntmps47, List.size_toArray, List.length_cons, List.length_nil, Nat.reduceAdd, Nat.reduceSub, Array.replicate_succ, Array.replicate_zero, List.push_toArray, List.append_toArray, List.nil_append, List.cons_append]
  gi_wp2
  all_goals (
    gi_loopw [4] (fun p wr => ∃ m : Nat, i.toNat ≤ m ∧ (m ≤ all.length ∨ m = i.toNat) ∧ p = .int .i64 m ∧ J (fromSeq w b all i.toNat (m - i.toNat)) wr ∧ Kq n1 S w wr)
      (fun p _ => all.length - (intOf p).toNat)
    case atStart => exact ⟨i.toNat, Nat.le_refl _, .inr rfl, by congr 1; omega, by rw [Nat.sub_self]; exact h0, hW⟩
    case round =>
      obtain ⟨m, hm1, hm2, rfl, hJs, hnx⟩ := hrel
      have d1 : wr.cell? ⟨Bb, 0, none⟩ = some (.pointer (some ⟨g, 0, none⟩)) := (hnx.cell (p := ⟨Bb, 0, none⟩) hBb.1 hBb.2).trans hcb
      have d2 : wr.cell? ⟨g, 0, none⟩ = some (.slice A all.length cap) := (hnx.cell (p := ⟨g, 0, none⟩) hg.1 hg.2).trans hcg
      by_cases hlt : m < all.length
      · have hrow := hrow (by omega)
        obtain rfl := hA (by omega)
        have hr := hrow.2.2 m hlt
        have e0 := (hnx.cell (p := ⟨b, m * 3, none⟩) hrow.1 hrow.2.1).trans hr.1
        have e1 := (hnx.cell (p := ⟨b, m * 3 + 1, none⟩) hrow.1 hrow.2.1).trans hr.2.1
        have e2 := (hnx.cell (p := ⟨b, m * 3 + 2, none⟩) hrow.1 hrow.2.1).trans hr.2.2
        obtain ⟨fn, tmps, assign, body, hy, hR⟩ := hY _ (m, rawAt w b all m) wr hJs (by rw [fromSeq_length]; omega)
        have hJJ : fromSeq w b all i.toNat (m - i.toNat) ++ [(m, rawAt w b all m)] = fromSeq w b all i.toNat (m + 1 - i.toNat) := by
          rw [show m + 1 - i.toNat = (m - i.toNat) + 1 by omega, fromSeq_succ, show i.toNat + (m - i.toNat) = m by omega]
        rw [hJJ] at hR
        have hlt' : (m : Int) < (all.length : Int) := by omega
        have hq : wrap64 ((m : Int) + 1) = (m : Int) + 1 := by unfold wrap64; omega
        generalize rawAt w b all m = r at *
        dsimp only [rawV] at hy
        clear hJJ hr hY
        gi_wp2
        refine hR.mono ?_
        rintro e W3 (⟨rfl, hJ3, hk3⟩ | ⟨rfl, hJx3⟩)
        · gi_wp2
          go_roundw
          case rel => exact ⟨m + 1, by omega, .inl (by omega), by simp, hJ3, hnx.t hk3⟩
          case measure => simp [intOf]; omega
        · gi_wp2
          refine bodyPost_ret (results_none rfl _ _ _) rfl ?_
          exact ⟨⟨_, rfl⟩, .inr ⟨_, ⟨m + 1 - i.toNat, by omega, rfl⟩, hJx3⟩⟩
      · have hge : ¬ (m : Int) < (all.length : Int) := by omega
        have hd : decide ((m : Int) < (all.length : Int)) = false := by simpa using hge
        clear hY
        gi_wp2
        go_end0
        refine ⟨⟨_, rfl⟩, .inl ?_⟩
        rw [show all.length - i.toNat = m - i.toNat by omega]
        exact hJs)
set_option maxHeartbeats 2000000 in
/-- from: two boxes, and a function value. -/
theorem from_in (F : Fence) (n : Nat) (h35 : F.fn 35) (hro : F.round = none) (g : Nat) (i : Int) (w : World) :
    CallsIn F n Try.prog 35 #[.pointer (some ⟨g, 0, none⟩), .int .i64 i] w fun e w' => e = .returned (.func (.func 47) #[] #[.pointer (some ⟨w.heap.size + 1, 0, none⟩), .pointer (some ⟨w.heap.size, 0, none⟩)]) ∧ w' = (w.alloc (.cells #[.pointer (some ⟨g, 0, none⟩)] 76)).alloc (.cells #[.int .i64 i] 3) := by
  refine callsIn_of_wp Try.func35 rfl h35 ?_ hro
  simp only [Try.ntmps35, List.size_toArray, List.length_cons, List.length_nil, Nat.reduceAdd, Nat.reduceSub, Array.replicate_succ, Array.replicate_zero, List.push_toArray, List.append_toArray, List.nil_append, List.cons_append]
  gi_wp2
  go_ret
  exact ⟨rfl, rfl⟩
theorem from_stops (F : Fence) (n : Nat) (h47 : F.fn 47) (hro : F.round = none) (hn : 1 ≤ n) (Bi Bb g b cap n1 : Nat) (S : Nat → Prop) (w : World) (all : List S33) (i : Int) (hl : all.length < 1000000) (hBi : Bi < n1 ∧ ¬ S Bi) (hBb : Bb < n1 ∧ ¬ S Bb) (hg : g < n1 ∧ ¬ S g) (hrow : 0 < all.length → RowAt w n1 S b all)
    (hn1 : n1 ≤ w.heap.size) (hci : w.cell? ⟨Bi, 0, none⟩ = some (.int .i64 i)) (hcb : w.cell? ⟨Bb, 0, none⟩ = some (.pointer (some ⟨g, 0, none⟩))) (A : Option Addr) (hA : 0 < all.length → A = some ⟨b, 0, none⟩) (hcg : w.cell? ⟨g, 0, none⟩ = some (.slice A all.length cap)) :
    SeqStopsK F n Try.prog 47 #[.pointer (some ⟨Bi, 0, none⟩), .pointer (some ⟨Bb, 0, none⟩)] (fun x : Nat × Raw => #[Value.int .i64 (x.1 : Int), rawV x.2]) (Kq n1 S) (fun ys => ys = fromSeq w b all i.toNat (all.length - i.toNat))
      (fun pre => ∃ k, k ≤ all.length - i.toNat ∧ pre = fromSeq w b all i.toNat k) (all.length - i.toNat) w := fun l J Jx W hW _ _ hY h0 =>
  from1_in F n h47 hro hn l Bi Bb g b cap n1 S w all i hl hBi hBb hg hrow J Jx hY W (Kq.below (hW.mono hn1)) hci hcb A hA hcg h0
end Go.Proofs.Ytnaefndclalepaa.Net
