/- The document's net: its block, its links. -/
import Derived.Test.YtnaefndclalepaaAwk
import Derived.Deep.LoopGhost
import Derived.ChangeKeysEq
namespace Go.Proofs.Ytnaefndclalepaa.Net
set_option linter.unusedVariables false
set_option linter.unusedSimpArgs false
open Go.RowKit Go.Shelf Go.Proofs.YtnaefndclalepaaW.PrintWords Go.Proofs.YtnaefndclalepaaW.PrintLast Go.Proofs.YtnaefndclalepaaW.PrintMore Go.Proofs.Ytnaefndclalepaa.XN
def rcut.T4 : Bool × List (List Nat × List Nat) := (true, [([], []), ([0], [0]), ([1], [1]), ([2], [2]), ([], []), ([3, 4], [3, 4]), ([5], [5]), ([], []), ([6, 7], [6, 7])])
def rcut.B4 : List Nat := [0, 1, 3, 7, 0, 31, 63, 0, 255]
theorem rcut.tab4 : rtab .any (opsOf Try.f49 4) = rcut.T4 := by kernel_rfl
theorem rcut.bits4 : waitsOk rcut.T4.2 rcut.B4 = true := by kernel_rfl
theorem eq80 (w : World) (p q a b : Int) : (Op.equalIn 10000 80 (.agg #[.int .i64 p, .int .i64 q]) (.agg #[.int .i64 a, .int .i64 b])).run Try.prog w = .ok (p == a && q == b) w := by
  obtain ⟨i, hi⟩ := info_of_underlying Try.underlying3
  have hc : Try.prog.cellsOf 3 = 1 := by kernel_rfl
  have hp : ∀ (xs : Array Value) (off : Nat) (v : Value), xs[off]? = some v → (part 3 xs off).run Try.prog w = .ok v w := fun xs off v h => run_part_plain w (by kernel_rfl) h
  have h0 : ∀ x y : Int, (part 3 #[.int .i64 x, .int .i64 y] 0).run Try.prog w = .ok (.int .i64 x) w := fun x y => hp _ _ _ rfl
  have h1 : ∀ x y : Int, (part 3 #[.int .i64 x, .int .i64 y] 1).run Try.prog w = .ok (.int .i64 y) w := fun x y => hp _ _ _ rfl
  have he : ∀ x y : Int, (Op.equalIn 9999 3 (.int .i64 x) (.int .i64 y)).run Try.prog w = .ok (x == y) w := fun x y => run_equalIn_int (w := w) (d := 9998) (t := 3) (k := .i64) (k' := .i64) (a := x) (b := y) (h := Try.underlying3)
  clear hp
  have hl : List.range 2 = [0, 1] := rfl
  rw [show (10000 : Nat) = 9999 + 1 from rfl, run_equalIn_array w 9999 _ _ Try.underlying80 hi, hc, hl]
  simp only [Op.eqItems, Sem.run_bind, Nat.mul_one, h0, he, Result.andThen_ok]
  cases (p == a) <;> cases hq : (q == b) <;> simp [h1, he, hq]
def k80 : Kd (Int × Int) := Kd.pair (Kd.int .i64) (Kd.int .i64)
theorem k80_open {w : World} {x : Int × Int} {cs : List Value} (h : k80.K w x cs) : cs = [.int .i64 x.1, .int .i64 x.2] := by
  obtain ⟨_, _, rfl, rfl, rfl⟩ := h
  rfl
theorem k80_mk (w : World) (x : Int × Int) : k80.K w x [.int .i64 x.1, .int .i64 x.2] := ⟨[.int .i64 x.1], [.int .i64 x.2], rfl, rfl, rfl⟩
theorem at_80 {w : World} {A : Option Addr} {n : Nat} {xs : List (Int × Int)} (h : Kd.C k80 w A n xs) (i : Nat) (hi : i < n) : ∃ ad, A = some ad ∧ w.cell? (ad.add (i * 2)) = some (.int .i64 (xs.getD i (0, 0)).1) ∧ w.cell? ⟨(ad.add (i * 2)).block, (ad.add (i * 2)).off + 1, none⟩ = some (.int .i64 (xs.getD i (0, 0)).2) := by
  obtain ⟨ad, c, e, _, hK, hc0⟩ := Kd.C_get h (0, 0) (i : Int) (by omega) (by omega)
  simp only [Int.toNat_natCast] at hK hc0
  have hc : ∀ j u, c[j]? = some u → w.cell? (ad.add (i * 2 + j)) = some u := hc0
  rw [k80_open hK] at hc
  exact ⟨ad, e, hc 0 _ rfl, by rw [← add_field _ _ 1 (by omega)]; exact hc 1 _ rfl⟩
theorem at_33 {w : World} {A : Option Addr} {n : Nat} {xs : List S33} (h : Kd.C k33 w A n xs) (i : Nat) (hi : i < n) : ∃ ad A2 c2, A = some ad ∧ w.cell? (ad.add (i * 3)) = some (.int .i64 (xs.getD i z33).f0) ∧ w.cell? ⟨(ad.add (i * 3)).block, (ad.add (i * 3)).off + 1, none⟩ = some (.int .i64 (xs.getD i z33).f1) ∧ w.cell? ⟨(ad.add (i * 3)).block, (ad.add (i * 3)).off + 2, none⟩ = some (.slice A2 (xs.getD i z33).f2.length c2) ∧ (xs.getD i z33).f2.length ≤ c2 := by
  obtain ⟨ad, A2, c2, e, h0, h1, h2, h3, h4⟩ := at_T33 h (i : Int) (by omega) (by omega)
  simp only [Int.toNat_natCast, rd_T33] at h0 h1 h2 h3
  exact ⟨ad, A2, c2, e, h0, h1, h2, h3⟩
/-- The bytes of a message of a row that is read. -/
theorem elem_F {w : World} {ok : Nat → Prop} {ad : Addr} {n : Nat} {xs : List S33} (h : Kd.F k33 w ok (some ad) n xs) {k : Nat} (hk : k < n) {A2 : Option Addr} {c2 : Nat} (hu : w.cell? ⟨(ad.add (k * 3)).block, (ad.add (k * 3)).off + 2, none⟩ = some (.slice A2 (xs.getD k z33).f2.length c2)) : Kd.F (Kd.int .u8) w ok A2 (xs.getD k z33).f2.length (xs.getD k z33).f2 := by
  obtain ⟨ad', c, e, _, hK, hcc, _⟩ := Kd.F_get h z33 (k : Int) (by omega) (by omega)
  injection e with e
  subst e
  simp only [Int.toNat_natCast] at hK hcc
  obtain ⟨A2', c2', rfl, _, _⟩ := k33_open (Kd.FK_now hK)
  have h2 := hcc 2 _ rfl
  rw [show k * k33.sz + 2 = k * 3 + 2 from rfl, add_field _ _ 2 (by omega), hu] at h2
  injection h2 with h2
  injection h2 with h2
  subst h2
  refine Foot.imp hK (fun W' hk => ?_)
  obtain ⟨A3, c3, e3, _, g3⟩ := k33_open hk
  injection e3 with _ e3
  injection e3 with _ e3
  injection e3 with e3
  injection e3 with e3
  subst e3
  exact g3
/-- The document's net. -/
structure RefS where
  N : Int
  Bag : List S33
  Cuts : List (Int × Int)
/-- It lies at block g; all that it leads to lies in fr, and is only read. -/
def IsRef (W : World) (g : Nat) (fr : Nat → Prop) (m : RefS) : Prop :=
  ∃ vB vC : Value, W.heap[g]? = some (.cells #[.int .i64 m.N, vB, vC] 64 (0, 0)) ∧ fr g ∧ (∀ k, fr k → k < W.heap.size) ∧ Kd.V k33 33 W 0 (fun k => fr k ∧ k ≠ g) vB m.Bag ∧ Kd.V k80 80 W 0 (fun k => fr k ∧ k ≠ g) vC m.Cuts
theorem IsRef.fr {W W' : World} {g : Nat} {fr S : Nat → Prop} {m : RefS} (h : IsRef W g fr m) (hf : Fr S W W') (hs : ∀ k, fr k → ¬ S k) : IsRef W' g fr m := by
  obtain ⟨vB, vC, hb, hg, hlt, h1, h2⟩ := h
  exact ⟨vB, vC, (hf.block g (hlt g hg) (hs g hg)).trans hb, hg, fun k hk => Nat.lt_of_lt_of_le (hlt k hk) hf.size, Kd.V_step h1 (fun k hk hl => hf.block k hl (hs k hk.1)), Kd.V_step h2 (fun k hk hl => hf.block k hl (hs k hk.1))⟩
theorem IsRef.below {W W' : World} {g : Nat} {fr : Nat → Prop} {m : RefS} (h : IsRef W g fr m) (hb : Below W.heap.size W W') : IsRef W' g fr m := h.fr (Fr.of_below hb (fun _ => False)) (fun _ _ h => h)
theorem IsRef.alloc {W : World} {g : Nat} {fr : Nat → Prop} {m : RefS} (h : IsRef W g fr m) (o : Obj) : IsRef (W.alloc o) g fr m := h.below (below_alloc (Below.refl _ _) o)
theorem IsRef.drew {W : World} {g : Nat} {fr : Nat → Prop} {m : RefS} (h : IsRef W g fr m) : IsRef W.drew g fr m := h.below (below_drew (Below.refl _ _))
theorem IsRef.open_ {W : World} {g : Nat} {fr : Nat → Prop} {m : RefS} (h : IsRef W g fr m) : ∃ AB cB AC cC, W.heap[g]? = some (.cells #[.int .i64 m.N, .slice AB m.Bag.length cB, .slice AC m.Cuts.length cC] 64 (0, 0)) ∧ m.Bag.length ≤ cB ∧ m.Cuts.length ≤ cC ∧ Kd.F k33 W (fun k => fr k ∧ k ≠ g) AB m.Bag.length m.Bag ∧ Kd.F k80 W (fun k => fr k ∧ k ≠ g) AC m.Cuts.length m.Cuts := by
  obtain ⟨vB, vC, hb, hg, hlt, ⟨AB, cB, rfl, h1, h2⟩, ⟨AC, cC, rfl, h3, h4⟩⟩ := h
  exact ⟨AB, cB, AC, cC, hb, h1, h3, h2, h4⟩
theorem IsRef.cells {W : World} {g : Nat} {fr : Nat → Prop} {m : RefS} (h : IsRef W g fr m) : ∃ AB cB AC cC, W.cell? ⟨g, 0, none⟩ = some (.int .i64 m.N) ∧ W.cell? ⟨g, 1, none⟩ = some (.slice AB m.Bag.length cB) ∧ W.cell? ⟨g, 2, none⟩ = some (.slice AC m.Cuts.length cC) ∧ m.Bag.length ≤ cB ∧ m.Cuts.length ≤ cC ∧ Kd.F k33 W (fun k => fr k ∧ k ≠ g) AB m.Bag.length m.Bag ∧ Kd.F k80 W (fun k => fr k ∧ k ≠ g) AC m.Cuts.length m.Cuts := by
  obtain ⟨AB, cB, AC, cC, hb, h1, h2, h3, h4⟩ := h.open_
  exact ⟨AB, cB, AC, cC, (cells_at hb rfl).1, (cells_at hb rfl).1, (cells_at hb rfl).1, h1, h2, h3, h4⟩
theorem IsRef.lts {W : World} {g : Nat} {fr : Nat → Prop} {m : RefS} (h : IsRef W g fr m) : ∀ k, fr k → k < W.heap.size := by
  obtain ⟨_, _, _, _, h, _⟩ := h
  exact h
theorem IsRef.mine {W : World} {g : Nat} {fr : Nat → Prop} {m : RefS} (h : IsRef W g fr m) : fr g := by
  obtain ⟨_, _, _, h, _⟩ := h
  exact h
def lkP (m : RefS) (a b : Int) : Int × Int := if twoB m.N a b = true then (min a b, max a b) else (0, 0)
set_option maxHeartbeats 4000000 in
set_option maxRecDepth 100000 in
theorem rlink_c (m : RefS) (g : Nat) (fr : Nat → Prop) (w : World) (h : IsRef w g fr m) (a b : Int) : Calls Try.prog 48 #[.pointer (some ⟨g, 0, none⟩), .int .i64 a, .int .i64 b] w fun e w' => e = .returned (.tuple #[.agg #[.int .i64 (lkP m a b).1, .int .i64 (lkP m a b).2], .bool (twoB m.N a b)]) ∧ Below w.heap.size w w' := by
  obtain ⟨AB, cB, AC, cC, x0, _, _, _⟩ := h.cells
  have hg := World.block_lt_of_cell? _ _ x0
  unfold lkP
  clear h
  by_cases c0 : a < 1
  · have hT : twoB m.N a b = false := by unfold twoB; simp; omega
    rw [hT]
    have dc0 : decide (a < 1) = true := by simpa using c0
    clear hT
    go_enter Try.func48, Try.ntmps48
    go_wp2
    exact bodyPost_ret (v := .tuple #[.agg #[.int .i64 0, .int .i64 0], .bool false]) (by simp [results, Try.results48, go_sem]) rfl ⟨rfl, below_alloc (Below.refl _ _) _⟩
  by_cases c1 : m.N < a
  · have hT : twoB m.N a b = false := by unfold twoB; simp; omega
    rw [hT]
    have dc0 : decide (a < 1) = false := by simpa using c0
    have dc1 : decide (m.N < a) = true := by simpa using c1
    clear hT
    go_enter Try.func48, Try.ntmps48
    go_wp2
    exact bodyPost_ret (v := .tuple #[.agg #[.int .i64 0, .int .i64 0], .bool false]) (by simp [results, Try.results48, go_sem]) rfl ⟨rfl, below_alloc (Below.refl _ _) _⟩
  by_cases c2 : b < 1
  · have hT : twoB m.N a b = false := by unfold twoB; simp; omega
    rw [hT]
    have dc0 : decide (a < 1) = false := by simpa using c0
    have dc1 : decide (m.N < a) = false := by simpa using c1
    have dc2 : decide (b < 1) = true := by simpa using c2
    clear hT
    go_enter Try.func48, Try.ntmps48
    go_wp2
    exact bodyPost_ret (v := .tuple #[.agg #[.int .i64 0, .int .i64 0], .bool false]) (by simp [results, Try.results48, go_sem]) rfl ⟨rfl, below_alloc (Below.refl _ _) _⟩
  by_cases c3 : m.N < b
  · have hT : twoB m.N a b = false := by unfold twoB; simp; omega
    rw [hT]
    have dc0 : decide (a < 1) = false := by simpa using c0
    have dc1 : decide (m.N < a) = false := by simpa using c1
    have dc2 : decide (b < 1) = false := by simpa using c2
    have dc3 : decide (m.N < b) = true := by simpa using c3
    clear hT
    go_enter Try.func48, Try.ntmps48
    go_wp2
    exact bodyPost_ret (v := .tuple #[.agg #[.int .i64 0, .int .i64 0], .bool false]) (by simp [results, Try.results48, go_sem]) rfl ⟨rfl, below_alloc (Below.refl _ _) _⟩
  by_cases c4 : a = b
  · have hT : twoB m.N a b = false := by unfold twoB; simp; omega
    rw [hT]
    have dc0 : decide (a < 1) = false := by simpa using c0
    have dc1 : decide (m.N < a) = false := by simpa using c1
    have dc2 : decide (b < 1) = false := by simpa using c2
    have dc3 : decide (m.N < b) = false := by simpa using c3
    subst c4
    have d4 : (a == a) = true := by simp
    clear hT
    go_enter Try.func48, Try.ntmps48
    go_wp2
    exact bodyPost_ret (v := .tuple #[.agg #[.int .i64 0, .int .i64 0], .bool false]) (by simp [results, Try.results48, go_sem]) rfl ⟨rfl, below_alloc (Below.refl _ _) _⟩
  have hT : twoB m.N a b = true := by unfold twoB; simp; omega
  rw [hT]
  have dc0 : decide (a < 1) = false := by simpa using c0
  have dc1 : decide (m.N < a) = false := by simpa using c1
  have dc2 : decide (b < 1) = false := by simpa using c2
  have dc3 : decide (m.N < b) = false := by simpa using c3
  have d4 : (a == b) = false := by simpa using c4
  clear hT
  by_cases hab : a < b
  · have e1 : min a b = a := by omega
    have e2 : max a b = b := by omega
    rw [e1, e2]
    have e3 : min b a = a := by omega
    have e4 : max b a = b := by omega
    have HE := Aside0.mk (And.intro e1 (And.intro e2 (And.intro e3 e4)))
    clear e1 e2 e3 e4
    go_enter Try.func48, Try.ntmps48
    go_wp2
    exact bodyPost_ret (v := .tuple #[.agg #[.int .i64 a, .int .i64 b], .bool true]) (by simp [results, Try.results48, go_sem]) rfl ⟨rfl, (below_alloc (Below.refl _ _) _)⟩
  · have e1 : min a b = b := by omega
    have e2 : max a b = a := by omega
    rw [e1, e2]
    have e3 : min b a = b := by omega
    have e4 : max b a = a := by omega
    have HE := Aside0.mk (And.intro e1 (And.intro e2 (And.intro e3 e4)))
    clear e1 e2 e3 e4
    go_enter Try.func48, Try.ntmps48
    go_wp2
    exact bodyPost_ret (v := .tuple #[.agg #[.int .i64 b, .int .i64 a], .bool true]) (by simp [results, Try.results48, go_sem]) rfl ⟨rfl, (below_alloc (Below.refl _ _) _)⟩
set_option maxHeartbeats 4000000 in
set_option maxRecDepth 100000 in
theorem rcut_c (m : RefS) (g : Nat) (fr : Nat → Prop) (w : World) (h : IsRef w g fr m) (a b : Int) (hl : m.Cuts.length ≤ 1000000) : Calls Try.prog 49 #[.pointer (some ⟨g, 0, none⟩), .agg #[.int .i64 a, .int .i64 b]] w fun e w' => e = .returned (.bool (decide ((a, b) ∈ m.Cuts))) ∧ Below w.heap.size w w' := by
  obtain ⟨r, hr⟩ : ∃ r, decide ((a, b) ∈ m.Cuts) = r := ⟨_, rfl⟩
  rw [hr]
  have HR := Aside0.mk hr
  clear hr
  have HI := Aside0.mk h
  clear h
  go_enter Try.func49, Try.ntmps49
  go_wp2
  have HB := Aside0.mk (below_alloc (Below.refl w.heap.size w) (.cells #[.int .i64 a, .int .i64 b] 80))
  have BX := Aside0.mk (heap_alloc_new w (.cells #[.int .i64 a, .int .i64 b] 80))
  go_loopg [5] m.Cuts.length (fun gk v5 W => ∃ i : Nat, v5 = .int .i64 i ∧ i + gk = m.Cuts.length ∧ Aside0 (Below w.heap.size w W) ∧ Aside0 (W.heap[w.heap.size]? = some (.cells #[.int .i64 a, .int .i64 b] 80 (0, 0))) ∧ Aside0 (∀ j, j < i → m.Cuts.getD j (0, 0) ≠ (a, b)))
  case atStart => exact ⟨0, rfl, by omega, HB, BX, ⟨fun j hj => absurd hj (by omega)⟩⟩
  case round =>
    clear HB BX
    obtain ⟨i, rfl, hig, HB, BX, HJ⟩ := hrel
    obtain ⟨AB, cB, AC, cC, x0, x1, x2, hcB, hcC, hFB, hFC⟩ := (HI.out.below HB.out).cells
    obtain ⟨y0, _⟩ := cells_at BX.out (j := 0) rfl
    obtain ⟨y1, _⟩ := cells_at BX.out (j := 1) rfl
    have HFC := Aside0.mk hFC
    clear hFB hFC x0 x1
    by_cases hlt : i < m.Cuts.length
    · obtain ⟨ad, rfl, u0, u1⟩ := at_80 (Kd.F_now HFC.out) i hlt
      have hlt' : (i : Int) < (m.Cuts.length : Int) := by omega
      have hq : wrap64 ((i : Int) + 1) = (i : Int) + 1 := by unfold wrap64; omega
      obtain ⟨⟨p, q⟩, hp⟩ : ∃ x, m.Cuts.getD i (0, 0) = x := ⟨_, rfl⟩
      rw [hp] at u0 u1
      have HP := Aside0.mk hp
      clear hp
      obtain ⟨tt, htt⟩ : ∃ tt, (p == a && q == b) = tt := ⟨_, rfl⟩
      have heq := fun (w : World) => eq80 w p q a b
      rw [htt] at heq
      have HTT := Aside0.mk htt
      clear htt
      go_wp2
      refine start_ (n := 9) (S := fun w' => w'.cell? ⟨g, 2, none⟩ = some (.slice (some ad) m.Cuts.length cC) ∧ w'.cell? (ad.add (i * 2)) = some (.int .i64 p) ∧ w'.cell? ⟨(ad.add (i * 2)).block, (ad.add (i * 2)).off + 1, none⟩ = some (.int .i64 q) ∧ w'.cell? ⟨w.heap.size, 0, none⟩ = some (.int .i64 a) ∧ w'.cell? ⟨w.heap.size, 1, none⟩ = some (.int .i64 b)) (ds := []) #[false, false, false, false, false, false, false, false, false] (by kernel_rfl) rfl rfl ⟨x2, u0, u1, y0, y1⟩ (fun hHeld => ?_)
      refine with_tabW rcut.tab4 rcut.bits4 (fun HT_ HW_ => ?_)

      -- 0: Op.move
      refine pure_ (i := 0) (N := some 15) (v := ?_) (a' := ?_) #[true, false, false, false, false, false, false, false, false] rfl rfl (any_of HT_.out (by kernel_rfl)) (fun _ _ _ h => h) (Or.inl ⟨by rfl, ?_⟩) ?_ ?_
      rotate_left; (intro w'; go_simp; with_reducible rfl); rotate_left; (simp only [Act.put, List.setIfInBounds_toArray, List.set_cons_zero, List.set_cons_succ, i64_w, i32_w]; rfl)
      -- 1: Op.nilCheck
      refine pure_ (i := 1) (N := some 16) (v := ?_) (a' := ?_) #[true, true, false, false, false, false, false, false, false] rfl rfl (any_of HT_.out (by kernel_rfl)) (fun _ _ _ h => h) (Or.inl ⟨by rfl, ?_⟩) ?_ ?_
      rotate_left; (intro w'; go_simp; with_reducible rfl); rotate_left; (simp only [Act.put, List.setIfInBounds_toArray, List.set_cons_zero, List.set_cons_succ, i64_w, i32_w]; rfl)
      -- 2: Op.fieldAddr
      refine pure_ (i := 2) (N := some 17) (v := ?_) (a' := ?_) #[true, true, true, false, false, false, false, false, false] rfl rfl (any_of HT_.out (by kernel_rfl)) (fun _ _ _ h => h) (Or.inl ⟨by rfl, ?_⟩) ?_ ?_
      rotate_left; (intro w'; go_simp; with_reducible rfl); rotate_left; (simp only [Act.put, List.setIfInBounds_toArray, List.set_cons_zero, List.set_cons_succ, i64_w, i32_w]; rfl)
      -- 4: Op.move
      refine pure_ (i := 4) (N := some 19) (v := ?_) (a' := ?_) #[true, true, true, false, true, false, false, false, false] rfl rfl (any_of HT_.out (by kernel_rfl)) (fun _ _ _ h => h) (Or.inl ⟨by rfl, ?_⟩) ?_ ?_
      rotate_left; (intro w'; go_simp; with_reducible rfl); rotate_left; (simp only [Act.put, List.setIfInBounds_toArray, List.set_cons_zero, List.set_cons_succ, i64_w, i32_w]; rfl)
      -- 3: Op.load
      refine take_ (i := 3) (N := some 18) (v := ?_) (a' := ?_) #[true, true, true, true, true, false, false, false, false] rfl rfl (take_ofW HT_.out HW_.out (by kernel_rfl)) (fun _ _ _ h => h) (Or.inl ⟨by rfl, ?_⟩) hHeld ?_ ?_
      rotate_left; (rintro w' ⟨s0, s1, s2, s3, s4⟩; go_simp; with_reducible rfl); rotate_left; (simp only [Act.put, List.setIfInBounds_toArray, List.set_cons_zero, List.set_cons_succ, i64_w, i32_w]; rfl)
      -- 5: Op.indexAddr
      refine pure_ (i := 5) (N := some 20) (v := ?_) (a' := ?_) #[true, true, true, true, true, true, false, false, false] rfl rfl (any_of HT_.out (by kernel_rfl)) (fun _ _ _ h => h) (Or.inl ⟨by rfl, ?_⟩) ?_ ?_
      rotate_left; (intro w'; go_simp; with_reducible rfl); rotate_left; (simp only [Act.put, List.setIfInBounds_toArray, List.set_cons_zero, List.set_cons_succ, i64_w, i32_w]; rfl)
      -- 6: Op.load
      refine take_ (i := 6) (N := some 21) (v := ?_) (a' := ?_) #[true, true, true, true, true, true, true, false, false] rfl rfl (take_ofW HT_.out HW_.out (by kernel_rfl)) (fun _ _ _ h => h) (Or.inl ⟨by rfl, ?_⟩) hHeld ?_ ?_
      rotate_left; (rintro w' ⟨s0, s1, s2, s3, s4⟩; go_simp; with_reducible rfl); rotate_left; (simp only [Act.put, List.setIfInBounds_toArray, List.set_cons_zero, List.set_cons_succ, i64_w, i32_w]; rfl)
      -- 7: Op.load
      refine take_ (i := 7) (N := some 22) (v := ?_) (a' := ?_) #[true, true, true, true, true, true, true, true, false] rfl rfl (take_ofW HT_.out HW_.out (by kernel_rfl)) (fun _ _ _ h => h) (Or.inl ⟨by rfl, ?_⟩) hHeld ?_ ?_
      rotate_left; (rintro w' ⟨s0, s1, s2, s3, s4⟩; go_simp; with_reducible rfl); rotate_left; (simp only [Act.put, List.setIfInBounds_toArray, List.set_cons_zero, List.set_cons_succ, i64_w, i32_w]; rfl)
      -- 8: Op.binOp
      refine pure_ (i := 8) (N := some 23) (v := ?_) (a' := ?_) #[true, true, true, true, true, true, true, true, true] rfl rfl (any_of HT_.out (by kernel_rfl)) (fun _ _ _ h => h) (Or.inl ⟨by rfl, ?_⟩) ?_ ?_
      rotate_left; (intro w'; go_simp; with_reducible rfl); rotate_left; (simp only [Act.put, List.setIfInBounds_toArray, List.set_cons_zero, List.set_cons_succ, i64_w, i32_w]; rfl)
      refine done_ (done_of HT_.out (by kernel_rfl)) ?_
      clear x2 u0 u1 y0 y1 hHeld heq
      cases tt with
      | true =>
        obtain rfl : r = true := by
          rw [← HR.out]
          have h1 := HTT.out
          simp only [Bool.and_eq_true, beq_iff_eq] at h1
          obtain ⟨rfl, rfl⟩ := h1
          have h2 := HP.out
          rw [List.getD_eq_getElem?_getD, List.getElem?_eq_getElem hlt] at h2
          exact decide_eq_true (h2 ▸ List.getElem_mem hlt)
        go_wp2
        go_ret
        exact ⟨rfl, below_drew HB.out⟩
      | false =>
        obtain ⟨k1, rfl⟩ : ∃ k1, gk = k1 + 1 := ⟨gk - 1, by omega⟩
        go_wp2
        go_roundg k1
        case measure => omega
        case rel => exact ⟨i + 1, rfl, by omega, ⟨below_drew HB.out⟩, ⟨BX.out⟩, ⟨fun j hj => by
          by_cases hj2 : j < i
          · exact HJ.out j hj2
          · obtain rfl : j = i := by omega
            rw [HP.out]
            intro e
            injection e with e1 e2
            subst e1
            subst e2
            exact absurd HTT.out (by simp)⟩⟩
    · obtain rfl : i = m.Cuts.length := by omega
      obtain rfl : r = false := by
        rw [← HR.out]
        refine decide_eq_false (fun hm => ?_)
        obtain ⟨j, hj, he⟩ := List.getElem_of_mem hm
        refine HJ.out j hj ?_
        rw [List.getD_eq_getElem?_getD, List.getElem?_eq_getElem hj]
        exact he
      have hd : decide ((m.Cuts.length : Int) < (m.Cuts.length : Int)) = false := by simp
      go_wp2
      go_ret
      exact ⟨rfl, HB.out⟩
/-- Is a link open? -/
def ropenB (m : RefS) (a b : Int) : Bool := twoB m.N a b && !decide (lkP m a b ∈ m.Cuts)
set_option maxHeartbeats 4000000 in
set_option maxRecDepth 100000 in
theorem ropen_c (m : RefS) (g : Nat) (fr : Nat → Prop) (w : World) (h : IsRef w g fr m) (a b : Int) (hl : m.Cuts.length ≤ 1000000) : Calls Try.prog 44 #[.pointer (some ⟨g, 0, none⟩), .int .i64 a, .int .i64 b] w fun e w' => e = .returned (.bool (ropenB m a b)) ∧ Below w.heap.size w w' := by
  unfold ropenB
  have HI := Aside0.mk h
  have hlk := rlink_c m g fr w h a b
  clear h
  obtain ⟨⟨lo, hi⟩, hp⟩ : ∃ x, lkP m a b = x := ⟨_, rfl⟩
  rw [hp] at hlk ⊢
  have HC := Aside0.mk (fun (W : World) (hI : IsRef W g fr m) => rcut_c m g fr W hI lo hi hl)
  clear hp
  cases ht : twoB m.N a b
  · rw [ht] at hlk
    have HLK := Aside0.mk hlk
    clear hlk ht
    go_enter Try.func44, Try.ntmps44
    go_wp2_with (go_at_call 48; refine HLK.out.mono ?_; rintro e w2 ⟨rfl, hb⟩; have HB := Aside0.mk (below_alloc hb (.cells #[.int .i64 lo, .int .i64 hi] 80)); clear hb)
    go_ret
    exact ⟨rfl, HB.out⟩
  · rw [ht] at hlk
    have HLK := Aside0.mk hlk
    clear hlk ht
    generalize decide ((lo, hi) ∈ m.Cuts) = t at *
    go_enter Try.func44, Try.ntmps44
    go_wp2_with (first
      | (go_at_call 48; refine HLK.out.mono ?_; rintro e w2 ⟨rfl, hb⟩; have HB := Aside0.mk (below_alloc hb (.cells #[.int .i64 lo, .int .i64 hi] 80)); clear hb)
      | (go_at_call 49; refine (HC.out _ (HI.out.below HB.out)).mono ?_; rintro e w3 ⟨rfl, hb⟩; have HB2 := Aside0.mk (below_then HB.out HB.out.size hb); clear hb))
    go_ret
    exact ⟨by simp, HB2.out⟩
/-! ### New -/
set_option maxHeartbeats 4000000 in
set_option maxRecDepth 100000 in
theorem rnew_no (m : Int) (w : World) (h : m < 1 ∨ 15 < m) : Calls Try.prog 20 #[.int .i64 m] w fun e w' => e = .returned (.pointer none) ∧ w = w' := by
  by_cases h1 : m < 1
  · go_enter Try.func20, Try.ntmps20
    go_wp2
    go_ret
    exact ⟨rfl, rfl⟩
  · have h2 : 15 < m := by omega
    have e1 : decide (m < 1) = false := by simpa using h1
    go_enter Try.func20, Try.ntmps20
    go_wp2
    go_ret
    exact ⟨rfl, rfl⟩
set_option maxHeartbeats 4000000 in
set_option maxRecDepth 100000 in
theorem rnew_ok (m : Int) (w : World) (h1 : 1 ≤ m) (h2 : m ≤ 15) : Calls Try.prog 20 #[.int .i64 m] w fun e w' => e = .returned (.pointer (some ⟨w.heap.size, 0, none⟩)) ∧ IsRef w' w.heap.size (fun k => k = w.heap.size) ⟨m, [], []⟩ ∧ Below w.heap.size w w' := by
  have e1 : decide (m < 1) = false := by simpa using h1
  have e2 : decide (15 < m) = false := by simpa using h2
  go_enter Try.func20, Try.ntmps20
  go_wp2
  go_ret
  exact ⟨rfl, ⟨.slice none 0 0, .slice none 0 0, heap_alloc_new w _, rfl, fun k hk => by subst hk; simp, Kd.V_nil _ _ _ _ _, Kd.V_nil _ _ _ _ _⟩, below_alloc (Below.refl _ _) _⟩
/-! ### At -/
def ratE (m : RefS) (i : Int) : Int := if 0 ≤ i ∧ i < m.Bag.length then 0 else 4
def ratM (m : RefS) (i : Int) : S33 := if 0 ≤ i ∧ i < m.Bag.length then m.Bag.getD i.toNat z33 else z33
set_option maxHeartbeats 4000000 in
set_option maxRecDepth 100000 in
theorem rat_c (m : RefS) (g : Nat) (fr : Nat → Prop) (w : World) (h : IsRef w g fr m) (i : Int) : Calls Try.prog 37 #[.pointer (some ⟨g, 0, none⟩), .int .i64 i] w fun e w' => ∃ A c, e = .returned (.tuple #[.agg #[.int .i64 (ratM m i).f0, .int .i64 (ratM m i).f1, .slice A (ratM m i).f2.length c], .int .i64 (ratE m i)]) ∧ (ratM m i).f2.length ≤ c ∧ Kd.F (Kd.int .u8) w (fun k => fr k ∧ k ≠ g) A (ratM m i).f2.length (ratM m i).f2 ∧ Below w.heap.size w w' := by
  have HI := Aside0.mk h
  obtain ⟨AB, cB, AC, cC, x0, x1, x2, hcB, hcC, hFB, hFC⟩ := h.cells
  unfold ratE ratM
  have hgl := World.block_lt_of_cell? _ _ x1
  clear h x0 x2 hFC
  have HFB := Aside0.mk hFB
  clear hFB
  by_cases h0 : i < 0
  · rw [if_neg (by omega), if_neg (by omega)]
    go_enter Try.func37, Try.ntmps37
    go_wp2
    exact bodyPost_ret (v := .tuple #[.agg #[.int .i64 0, .int .i64 0, .slice none 0 0], .int .i64 4]) (by simp [results, Try.results37, go_sem]) rfl ⟨none, 0, rfl, Nat.le_refl _, Kd.F_nil _ _ _, below_alloc (Below.refl _ _) _⟩
  · have e0 : decide (i < 0) = false := by simpa using h0
    by_cases h1 : (m.Bag.length : Int) ≤ i
    · rw [if_neg (by omega), if_neg (by omega)]
      go_enter Try.func37, Try.ntmps37
      go_wp2
      exact bodyPost_ret (v := .tuple #[.agg #[.int .i64 0, .int .i64 0, .slice none 0 0], .int .i64 4]) (by simp [results, Try.results37, go_sem]) rfl ⟨none, 0, rfl, Nat.le_refl _, Kd.F_nil _ _ _, below_alloc (Below.refl _ _) _⟩
    · rw [if_pos (by omega), if_pos (by omega)]
      obtain ⟨k, rfl⟩ := Int.eq_ofNat_of_zero_le (by omega : 0 ≤ i)
      rw [Int.toNat_natCast]
      have e1 : decide ((m.Bag.length : Int) ≤ (k : Int)) = false := by simpa using h1
      have hk : k < m.Bag.length := by omega
      have hk' : (k : Int) < (m.Bag.length : Int) := by omega
      obtain ⟨ad, A2, c2, rfl, u0, u1, u2, hc2⟩ := at_33 (Kd.F_now HFB.out) k hk
      have HEL : Aside0 (Kd.F (Kd.int .u8) w (fun k => fr k ∧ k ≠ g) A2 (m.Bag.getD k z33).f2.length (m.Bag.getD k z33).f2) := ⟨elem_F HFB.out hk u2⟩
      have hba := below_alloc (Below.refl w.heap.size w) (.cells #[.int .i64 0, .int .i64 0, .slice none 0 0] 33)
      replace u0 := pw_cell_below hba u0
      replace u1 := pw_cell_below hba u1
      replace u2 := pw_cell_below hba u2
      clear hba
      generalize m.Bag.getD k z33 = x at *
      obtain ⟨f, t, l⟩ := x
      dsimp only at u0 u1 u2 hc2 HEL ⊢
      go_enter Try.func37, Try.ntmps37
      go_wp2
      exact bodyPost_ret (v := .tuple #[.agg #[.int .i64 f, .int .i64 t, .slice A2 l.length c2], .int .i64 0]) (by simp [results, Try.results37, go_sem]) rfl ⟨A2, c2, rfl, hc2, HEL.out, below_alloc (Below.refl _ _) _⟩
end Go.Proofs.Ytnaefndclalepaa.Net
