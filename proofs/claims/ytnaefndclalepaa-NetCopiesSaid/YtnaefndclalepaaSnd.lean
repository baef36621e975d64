/- A message is sent, or doubled. -/
import Derived.Test.YtnaefndclalepaaDlv
namespace Go.Proofs.Ytnaefndclalepaa.Net
set_option linter.unusedVariables false
set_option linter.unusedSimpArgs false
open Go.RowKit Go.Proofs.YtnaefndclalepaaW.PrintWords Go.Proofs.YtnaefndclalepaaW.PrintLast Go.Proofs.YtnaefndclalepaaW.PrintMore Go.Proofs.Ytnaefndclalepaa.XN
def dbl.T2 : Bool × List (List Nat × List Nat) := (true, [([], []), ([0], [0]), ([1], [1]), ([2], [2]), ([3, 2], [2, 3]), ([4, 2], [2, 4]), ([2], [2]), ([5, 6, 2, 2], [2, 5, 6]), ([7, 2], [2, 7]), ([2, 8], [2, 8])])
def dbl.B2 : List Nat := [0, 1, 3, 7, 15, 31, 7, 127, 255, 511]
theorem dbl.tab2 : rtab .any (opsOf Try.f17 2) = dbl.T2 := by kernel_rfl
theorem dbl.bits2 : waitsOk dbl.T2.2 dbl.B2 = true := by kernel_rfl
def snd.T7 : Bool × List (List Nat × List Nat) := (true, [([], []), ([0], [0]), ([1], [1]), ([], []), ([], []), ([], []), ([5], [5]), ([3, 4, 6], [3, 4, 6]), ([2, 7, 6], [2, 7]), ([8], [8]), ([9, 8], [9])])
def snd.B7 : List Nat := [0, 1, 3, 0, 0, 0, 32, 120, 255, 511, 1023]
theorem snd.tab7 : rtab .any (opsOf Try.f10 7) = snd.T7 := by kernel_rfl
theorem snd.bits7 : waitsOk snd.T7.2 snd.B7 = true := by kernel_rfl
/-- put, whatever room there is. -/
def putB (n : NetS) : Bool := !decide (n.most ≤ (n.all.length : Int))
def putN (n : NetS) (m : S33) : NetS := if putB n = true then { n with all := n.all ++ [m] } else n
theorem put_c (n : NetS) (g : Nat) (fp q : Nat → Prop) (w : World) (h : IsNet w g fp n) (f t : Int) (Am : Option Addr) (cm : Nat) (l : List Int) (hm : Kd.F (Kd.int .u8) w q Am l.length l) (hcm : l.length ≤ cm) (hq : ∀ k, q k → k < w.heap.size ∧ ¬ fp k) (hlen : n.all.length < 1000000) :
    Calls Try.prog 28 #[.pointer (some ⟨g, 0, none⟩), .agg #[.int .i64 f, .int .i64 t, .slice Am l.length cm]] w fun e w' => e = .returned (.bool (putB n)) ∧ (∃ fp' : Nat → Prop, IsNet w' g fp' (putN n ⟨f, t, l⟩) ∧ (∀ k, fp' k → fp k ∨ q k ∨ w.heap.size ≤ k)) ∧ Fr fp w w' := by
  unfold putN putB
  by_cases hr : n.most ≤ (n.all.length : Int)
  · simp only [decide_eq_true hr, Bool.not_true, Bool.false_eq_true, if_false]
    refine (put_full n g fp q w h f t Am cm l hm hcm hq hr).mono ?_
    rintro e w' ⟨rfl, h1, h2⟩
    exact ⟨rfl, ⟨fp, h1, fun k hk => .inl hk⟩, h2⟩
  · simp only [decide_eq_false hr, Bool.not_false, if_true]
    exact put_ok n g fp q w h f t Am cm l hm hcm hq (by omega) hlen
theorem dbl_end {w w2 w3 : World} {g : Nat} {fp fp' q : Nat → Prop} {n : NetS} (hB : Below w.heap.size w w2) (hI : IsNet w3 g fp' n) (hs : ∀ k, fp' k → fp k ∨ q k ∨ w2.heap.size ≤ k) (hF : Fr fp w2 w3) (hq : ∀ k, q k → w.heap.size ≤ k) :
    ∃ fp' : Nat → Prop, IsNet w3 g fp' n ∧ (∀ k, fp' k → fp k ∨ w.heap.size ≤ k) ∧ Fr fp w w3 :=
  ⟨fp', hI, fun k hk => by
    rcases hs k hk with h | h | h
    · exact .inl h
    · exact .inr (hq k h)
    · exact .inr (Nat.le_trans hB.size h), (Fr.of_below hB fp).trans hF (fun _ h _ => h)⟩
/-- What Double answers, and leaves. -/
def dblE (n : NetS) (i : Int) : Int := if hasB n i = true then (if putB n = true then 0 else 3) else 4
def dblN (n : NetS) (i : Int) : NetS := if hasB n i = true then putN n (atM n i) else n
set_option maxHeartbeats 4000000 in
set_option maxRecDepth 100000 in
theorem dbl_none (n : NetS) (p : Option Addr) (fp : Nat → Prop) (w : World) (h : Recv w p fp n) (i : Int) (hlen : ∀ m, m ∈ n.all → m.f2.length < 1000000) (hh : hasB n i = false) :
    Calls Try.prog 17 #[.pointer p, .int .i64 i] w fun e w' => e = E 4 ∧ Below w.heap.size w w' := by
  have hat := at_r n p fp w h i hlen
  have e1 : atM n i = z33 := by unfold atM; rw [hh]; rfl
  have e2 : atE n i = 4 := by unfold atE; rw [hh]; rfl
  rw [e1, e2] at hat
  have HAT := Aside0.mk hat
  clear hat h hlen hh e1 e2
  go_enter Try.func17, Try.ntmps17
  go_wp2_with (first
    | (go_at_call 16; refine HAT.out.mono ?_; rintro e w2 ⟨vb, rfl, hR, hB⟩; obtain ⟨Ab, cb, rfl⟩ := Kd.R_slice hR; have HB2 := Aside0.mk (below_alloc hB (.cells #[.int .i64 z33.f0, .int .i64 z33.f1, .slice Ab z33.f2.length cb] 33)); have BK2 := Aside0.mk (heap_alloc_new w2 (.cells #[.int .i64 z33.f0, .int .i64 z33.f1, .slice Ab z33.f2.length cb] 33)); clear hR hB; obtain ⟨x0, _⟩ := cells_at BK2.out (j := 0) rfl; obtain ⟨x1, _⟩ := cells_at BK2.out (j := 1) rfl; obtain ⟨x2, _⟩ := cells_at BK2.out (j := 2) rfl))
  refine start_ (n := 10) (S := fun w' => True) (ds := [7]) #[false, false, false, false, false, false, false, false, false, false] (by kernel_rfl) rfl rfl trivial (fun hHeld => ?_)
  refine with_tabW dbl.tab2 dbl.bits2 (fun HT_ HW_ => ?_)
  -- 0: Op.move
  refine pure_ (i := 0) (N := some 13) (v := ?_) (a' := ?_) #[true, false, false, false, false, false, false, false, false, false] rfl rfl (any_of HT_.out (by kernel_rfl)) (fun _ _ _ h => h) (Or.inl ⟨by rfl, ?_⟩) ?_ ?_
  rotate_left; (intro w'; go_simp; with_reducible rfl); rotate_left; (simp only [Act.put, List.setIfInBounds_toArray, List.set_cons_zero, List.set_cons_succ, i64_w, i32_w]; rfl)
  -- 1: Op.binOp
  refine pure_ (i := 1) (N := some 14) (v := ?_) (a' := ?_) #[true, true, false, false, false, false, false, false, false, false] rfl rfl (any_of HT_.out (by kernel_rfl)) (fun _ _ _ h => h) (Or.inl ⟨by rfl, ?_⟩) ?_ ?_
  rotate_left; (intro w'; go_simp; with_reducible rfl); rotate_left; (simp only [Act.put, List.setIfInBounds_toArray, List.set_cons_zero, List.set_cons_succ, i64_w, i32_w]; rfl)
  -- 2: Op.move
  refine pure_ (i := 2) (N := some 15) (v := ?_) (a' := ?_) #[true, true, true, false, false, false, false, false, false, false] rfl rfl (any_of HT_.out (by kernel_rfl)) (fun _ _ _ h => h) (Or.inl ⟨by rfl, ?_⟩) ?_ ?_
  rotate_left; (intro w'; go_simp; with_reducible rfl); rotate_left; (simp only [Act.put, List.setIfInBounds_toArray, List.set_cons_zero, List.set_cons_succ, i64_w, i32_w]; rfl)
  -- 3: Op.move
  refine pure_ (i := 3) (N := some 16) (v := undef) (a' := ?_) #[true, true, true, true, false, false, false, false, false, false] rfl rfl (any_of HT_.out (by kernel_rfl)) (fun _ _ _ h => h) (Or.inr ⟨by rfl, rfl⟩) ?_ ?_
  rotate_left
  · simp only [Act.put, List.setIfInBounds_toArray, List.set_cons_zero, List.set_cons_succ, i64_w, i32_w]
    rfl
  -- 4: Op.nilCheck
  refine pure_ (i := 4) (N := some 17) (v := undef) (a' := ?_) #[true, true, true, true, true, false, false, false, false, false] rfl rfl (any_of HT_.out (by kernel_rfl)) (fun _ _ _ h => h) (Or.inr ⟨by rfl, rfl⟩) ?_ ?_
  rotate_left
  · simp only [Act.put, List.setIfInBounds_toArray, List.set_cons_zero, List.set_cons_succ, i64_w, i32_w]
    rfl
  -- 5: Op.fieldAddr
  refine pure_ (i := 5) (N := some 18) (v := undef) (a' := ?_) #[true, true, true, true, true, true, false, false, false, false] rfl rfl (any_of HT_.out (by kernel_rfl)) (fun _ _ _ h => h) (Or.inr ⟨by rfl, rfl⟩) ?_ ?_
  rotate_left
  · simp only [Act.put, List.setIfInBounds_toArray, List.set_cons_zero, List.set_cons_succ, i64_w, i32_w]
    rfl
  -- 6: Op.load
  refine pure_ (i := 6) (N := some 19) (v := undef) (a' := ?_) #[true, true, true, true, true, true, true, false, false, false] rfl rfl (any_of HT_.out (by kernel_rfl)) (fun _ _ _ h => h) (Or.inr ⟨by rfl, rfl⟩) ?_ ?_
  rotate_left
  · simp only [Act.put, List.setIfInBounds_toArray, List.set_cons_zero, List.set_cons_succ, i64_w, i32_w]
    rfl
  -- 7: Op.call
  refine last_ (i := 7) (N := some 20) #[true, true, true, true, true, true, true, true, false, false] rfl rfl (one_of HT_.out (by kernel_rfl)) (by decide) (fun K hK => ?_)
  refine off_ (by rfl) ?_
  refine hK.out _ _ ?_
  clear hK K
  refine norm_ (a' := ?_) ?_ ?_
  rotate_left; (show Act.put _ (some 20) _ = _; simp only [Act.put, List.setIfInBounds_toArray, List.set_cons_zero, List.set_cons_succ, i64_w, i32_w]; rfl)
  -- 8: Op.unOp
  refine pure_ (i := 8) (N := some 21) (v := undef) (a' := ?_) #[true, true, true, true, true, true, true, true, true, false] rfl rfl (any_of HT_.out (by kernel_rfl)) (fun _ _ _ h => h) (Or.inr ⟨by rfl, rfl⟩) ?_ ?_
  rotate_left
  · simp only [Act.put, List.setIfInBounds_toArray, List.set_cons_zero, List.set_cons_succ, i64_w, i32_w]
    rfl
  -- 9: Op.pick
  refine pure_ (i := 9) (N := some 22) (v := ?_) (a' := ?_) #[true, true, true, true, true, true, true, true, true, true] rfl rfl (any_of HT_.out (by kernel_rfl)) (fun _ _ _ h => h) (Or.inl ⟨by rfl, ?_⟩) ?_ ?_
  rotate_left; (intro w'; go_simp; with_reducible rfl); rotate_left; (simp only [Act.put, List.setIfInBounds_toArray, List.set_cons_zero, List.set_cons_succ, i64_w, i32_w]; rfl)
  refine done_ (done_of HT_.out (by kernel_rfl)) ?_
  go_wp2
  go_ret
  exact ⟨rfl, below_drew HB2.out⟩
set_option maxHeartbeats 4000000 in
set_option maxRecDepth 100000 in
theorem dbl_some (n : NetS) (g : Nat) (fp : Nat → Prop) (w : World) (h : IsNet w g fp n) (i : Int) (hlen : ∀ m, m ∈ n.all → m.f2.length < 1000000) (hl : n.all.length < 1000000) (hh : hasB n i = true) :
    Calls Try.prog 17 #[.pointer (some ⟨g, 0, none⟩), .int .i64 i] w fun e w' => e = E (if putB n = true then 0 else 3) ∧ ∃ fp' : Nat → Prop, IsNet w' g fp' (putN n (atM n i)) ∧ (∀ k, fp' k → fp k ∨ w.heap.size ≤ k) ∧ Fr fp w w' := by
  have hat := at_r n _ fp w (.inr ⟨g, rfl, h⟩) i hlen
  have e2 : atE n i = 0 := by unfold atE; rw [hh]; rfl
  rw [e2] at hat
  generalize atM n i = m at *
  obtain ⟨f, t, l⟩ := m
  have HPB := Aside0.mk (show ∀ q, putB n = q → putB n = q from fun _ h => h)
  have HPUT := Aside0.mk (fun q W hW Am cm hm hcm hq => put_c n g fp q W hW f t Am cm l hm hcm hq hl)
  have HAT := Aside0.mk hat
  have HI := Aside0.mk h
  have HFP := Aside0.mk h.lts
  clear hat h hlen hh e2 hl HPB
  generalize putN n ⟨f, t, l⟩ = n2 at *
  cases hp : putB n
  all_goals (rw [hp] at HPUT; clear hp)
  all_goals (
    go_enter Try.func17, Try.ntmps17
    go_wp2_with (first
      | (go_at_call 16; refine HAT.out.mono ?_; rintro e w2 ⟨vb, rfl, hR, hB⟩; obtain ⟨Ab, cb, rfl⟩ := Kd.R_slice hR; have HB2 := Aside0.mk (below_alloc hB (.cells #[.int .i64 f, .int .i64 t, .slice Ab l.length cb] 33)); have BK2 := Aside0.mk (heap_alloc_new w2 (.cells #[.int .i64 f, .int .i64 t, .slice Ab l.length cb] 33)); have HR2 := Aside0.mk (Kd.R_alloc (Kd.R_bound hR) (.cells #[.int .i64 f, .int .i64 t, .slice Ab l.length cb] 33)); clear hR hB; obtain ⟨x0, _⟩ := cells_at BK2.out (j := 0) rfl; obtain ⟨x1, _⟩ := cells_at BK2.out (j := 1) rfl; obtain ⟨x2, _⟩ := cells_at BK2.out (j := 2) rfl)
      | (go_at_call 28; have hs2 : (w2.alloc (.cells #[.int .i64 f, .int .i64 t, .slice Ab l.length cb] 33)).heap.size = w2.heap.size + 1 := (by simp); refine (HPUT.out _ _ (HI.out.fr (Fr.of_below HB2.out (fun _ => False)) (fun _ _ h => h)) _ _ (Kd.R_F HR2.out) (Kd.R_reads' HR2.out).2.1 (fun k hk => ⟨by have := hk.2.2.1; omega, fun hf => by have := HFP.out k hf; have := hk.2.1; omega⟩)).mono ?_; rintro e w3 ⟨rfl, ⟨fp', hI3, hs3⟩, hF3⟩; have HE := Aside0.mk (dbl_end HB2.out hI3 hs3 hF3 (fun k hk => hk.2.1)); clear hI3 hs3 hF3))
    refine start_ (n := 10) (S := fun w' => w'.cell? ⟨w2.heap.size, 0, none⟩ = some (.int .i64 f) ∧ w'.cell? ⟨w2.heap.size, 1, none⟩ = some (.int .i64 t) ∧ w'.cell? ⟨w2.heap.size, 2, none⟩ = some (.slice Ab l.length cb)) (ds := [7]) #[false, false, false, false, false, false, false, false, false, false] (by kernel_rfl) rfl rfl ⟨x0, x1, x2⟩ (fun hHeld => ?_)
    refine with_tabW dbl.tab2 dbl.bits2 (fun HT_ HW_ => ?_)
    have HB3 := Aside0.mk (below_drew HB2.out)
    have HR3 := Aside0.mk (Kd.R_drew HR2.out)
    have HSZ := Aside0.mk (show w2.heap.size < (w2.alloc (.cells #[.int .i64 f, .int .i64 t, .slice Ab l.length cb] 33)).drew.heap.size by simp)
    clear HB2 HR2 BK2 x0 x1 x2
    generalize (w2.alloc (.cells #[.int .i64 f, .int .i64 t, .slice Ab l.length cb] 33)).drew = w3 at *
    -- 0: Op.move
    refine pure_ (i := 0) (N := some 13) (v := ?_) (a' := ?_) #[true, false, false, false, false, false, false, false, false, false] rfl rfl (any_of HT_.out (by kernel_rfl)) (fun _ _ _ h => h) (Or.inl ⟨by rfl, ?_⟩) ?_ ?_
    rotate_left; (intro w'; go_simp; with_reducible rfl); rotate_left; (simp only [Act.put, List.setIfInBounds_toArray, List.set_cons_zero, List.set_cons_succ, i64_w, i32_w]; rfl)
    -- 1: Op.binOp
    refine pure_ (i := 1) (N := some 14) (v := ?_) (a' := ?_) #[true, true, false, false, false, false, false, false, false, false] rfl rfl (any_of HT_.out (by kernel_rfl)) (fun _ _ _ h => h) (Or.inl ⟨by rfl, ?_⟩) ?_ ?_
    rotate_left; (intro w'; go_simp; with_reducible rfl); rotate_left; (simp only [Act.put, List.setIfInBounds_toArray, List.set_cons_zero, List.set_cons_succ, i64_w, i32_w]; rfl)
    -- 2: Op.move
    refine pure_ (i := 2) (N := some 15) (v := ?_) (a' := ?_) #[true, true, true, false, false, false, false, false, false, false] rfl rfl (any_of HT_.out (by kernel_rfl)) (fun _ _ _ h => h) (Or.inl ⟨by rfl, ?_⟩) ?_ ?_
    rotate_left; (intro w'; go_simp; with_reducible rfl); rotate_left; (simp only [Act.put, List.setIfInBounds_toArray, List.set_cons_zero, List.set_cons_succ, i64_w, i32_w]; rfl)
    -- 3: Op.move
    refine pure_ (i := 3) (N := some 16) (v := ?_) (a' := ?_) #[true, true, true, true, false, false, false, false, false, false] rfl rfl (any_of HT_.out (by kernel_rfl)) (fun _ _ _ h => h) (Or.inl ⟨by rfl, ?_⟩) ?_ ?_
    rotate_left; (intro w'; go_simp; with_reducible rfl); rotate_left; (simp only [Act.put, List.setIfInBounds_toArray, List.set_cons_zero, List.set_cons_succ, i64_w, i32_w]; rfl)
    -- 4: Op.nilCheck
    refine pure_ (i := 4) (N := some 17) (v := ?_) (a' := ?_) #[true, true, true, true, true, false, false, false, false, false] rfl rfl (any_of HT_.out (by kernel_rfl)) (fun _ _ _ h => h) (Or.inl ⟨by rfl, ?_⟩) ?_ ?_
    rotate_left; (intro w'; go_simp; with_reducible rfl); rotate_left; (simp only [Act.put, List.setIfInBounds_toArray, List.set_cons_zero, List.set_cons_succ, i64_w, i32_w]; rfl)
    -- 5: Op.fieldAddr
    refine pure_ (i := 5) (N := some 18) (v := ?_) (a' := ?_) #[true, true, true, true, true, true, false, false, false, false] rfl rfl (any_of HT_.out (by kernel_rfl)) (fun _ _ _ h => h) (Or.inl ⟨by rfl, ?_⟩) ?_ ?_
    rotate_left; (intro w'; go_simp; with_reducible rfl); rotate_left; (simp only [Act.put, List.setIfInBounds_toArray, List.set_cons_zero, List.set_cons_succ, i64_w, i32_w]; rfl)
    -- 6: Op.load
    refine take_ (i := 6) (N := some 19) (v := ?_) (a' := ?_) #[true, true, true, true, true, true, true, false, false, false] rfl rfl (take_ofW HT_.out HW_.out (by kernel_rfl)) (fun _ _ _ h => h) (Or.inl ⟨by rfl, ?_⟩) hHeld ?_ ?_
    rotate_left; (rintro w' ⟨s0, s1, s2⟩; go_simp; with_reducible rfl); rotate_left; (simp only [Act.put, List.setIfInBounds_toArray, List.set_cons_zero, List.set_cons_succ, i64_w, i32_w]; rfl)
    -- 7: Op.call
    refine last_ (i := 7) (N := some 20) #[true, true, true, true, true, true, true, true, false, false] rfl rfl (one_of HT_.out (by kernel_rfl)) (by decide) (fun K hK => ?_)
    refine goes_ Try.func28 (by kernel_rfl) rfl #[.pointer (some ⟨g, 0, none⟩), .agg #[.int .i64 f, .int .i64 t, .slice Ab l.length cb]] (by rfl) rfl rfl (by (try simp only [List.map_toArray, List.map_cons, List.map_nil]); first | done | rfl) ?_
    refine (HPUT.out _ _ (HI.out.fr (Fr.of_below HB3.out (fun _ => False)) (fun _ _ h => h)) _ _ (Kd.R_F HR3.out) (Kd.R_reads' HR3.out).2.1 (fun k hk => ⟨by have := hk.2.2.1; have := HSZ.out; omega, fun hf => by have := HFP.out k hf; have := hk.2.1; omega⟩)).mono ?_
    rintro e w4 ⟨rfl, ⟨fp', hI3, hs3⟩, hF3⟩
    have HE := Aside0.mk (dbl_end HB3.out hI3 hs3 hF3 (fun k hk => hk.2.1))
    clear hI3 hs3 hF3
    refine ⟨_, rfl, ?_⟩
    refine hK.out _ _ ?_
    clear hK K
    refine norm_ (a' := ?_) ?_ ?_
    rotate_left; (show Act.put _ (some 20) _ = _; simp only [Act.put, List.setIfInBounds_toArray, List.set_cons_zero, List.set_cons_succ, i64_w, i32_w]; rfl)
    -- 8: Op.unOp
    refine pure_ (i := 8) (N := some 21) (v := ?_) (a' := ?_) #[true, true, true, true, true, true, true, true, true, false] rfl rfl (any_of HT_.out (by kernel_rfl)) (fun _ _ _ h => h) (Or.inl ⟨by rfl, ?_⟩) ?_ ?_
    rotate_left; (intro w'; go_simp; with_reducible rfl); rotate_left; (simp only [Act.put, List.setIfInBounds_toArray, List.set_cons_zero, List.set_cons_succ, i64_w, i32_w]; rfl)
    -- 9: Op.pick
    refine pure_ (i := 9) (N := some 22) (v := ?_) (a' := ?_) #[true, true, true, true, true, true, true, true, true, true] rfl rfl (any_of HT_.out (by kernel_rfl)) (fun _ _ _ h => h) (Or.inl ⟨by rfl, ?_⟩) ?_ ?_
    rotate_left; (intro w'; go_simp; with_reducible rfl); rotate_left; (simp only [Act.put, List.setIfInBounds_toArray, List.set_cons_zero, List.set_cons_succ, i64_w, i32_w]; rfl)
    refine done_ (done_of HT_.out (by kernel_rfl)) ?_
    go_wp2
    go_ret
    exact ⟨rfl, HE.out⟩)
theorem dbl_r (n : NetS) (p : Option Addr) (fp : Nat → Prop) (w : World) (h : Recv w p fp n) (i : Int) (hlen : ∀ m, m ∈ n.all → m.f2.length < 1000000) (hl : n.all.length < 1000000) :
    Calls Try.prog 17 #[.pointer p, .int .i64 i] w fun e w' => e = E (dblE n i) ∧ ∃ fp' : Nat → Prop, Recv w' p fp' (dblN n i) ∧ (∀ k, fp' k → fp k ∨ w.heap.size ≤ k) ∧ Fr fp w w' := by
  unfold dblE dblN
  by_cases hh : hasB n i = true
  · rw [if_pos hh, if_pos hh]
    obtain ⟨g, rfl, hI⟩ := h.some_ hh
    refine (dbl_some n g fp w hI i hlen hl hh).mono ?_
    rintro e w' ⟨rfl, fp', h1, h2, h3⟩
    exact ⟨rfl, fp', .inr ⟨g, rfl, h1⟩, h2, h3⟩
  · rw [if_neg hh, if_neg hh]
    refine (dbl_none n p fp w h i hlen (Bool.eq_false_iff.2 hh)).mono ?_
    rintro e w' ⟨rfl, h1⟩
    exact ⟨rfl, fp, h.below h1, fun k hk => .inl hk, Fr.of_below h1 fp⟩
/-- What Send answers, and leaves. -/
def sendE (n : NetS) (a b : Int) (l : List Int) : Int := if twoB n.nodes a b = true then (if (16384 : Int) < l.length then 7 else if openB n a b = true then (if putB n = true then 0 else 3) else 6) else 1
def sendN (n : NetS) (a b : Int) (l : List Int) : NetS := if openB n a b = true ∧ ¬ (16384 : Int) < l.length then putN n ⟨a, b, l⟩ else n
theorem bytes_c (A : Option Addr) (c : Nat) (l : List Int) (w : World) (hC : Kd.C (Kd.int .u8) w A l.length l) (hc : l.length ≤ c) (hl : l.length < 1000000) :
    Calls Try.prog 29 #[.slice A l.length c] w fun e w' => ∃ v, e = .returned v ∧ Kd.R (Kd.int .u8) 5 w' w.heap.size (fun _ => True) v l ∧ Below w.heap.size w w' :=
  slices_Clone_byte_byte.calls A c l l w hC hc (by simp only [slices_Clone_byte_byte.f]; rw [if_pos (by omega)])
set_option maxHeartbeats 4000000 in
set_option maxRecDepth 100000 in
theorem send_no (n : NetS) (p : Option Addr) (fp : Nat → Prop) (w : World) (h : Recv w p fp n) (a b : Int) (A : Option Addr) (c : Nat) (l : List Int) (hm : n.nodes ≤ 15) (hno : ¬ (openB n a b = true ∧ ¬ (16384 : Int) < l.length)) :
    Calls Try.prog 10 #[.pointer p, .int .i64 a, .int .i64 b, .slice A l.length c] w fun e w' => e = E (sendE n a b l) ∧ w = w' := by
  unfold sendE
  have h2 := two_r n p fp w h a b
  have h3 := open_r n p fp w h hm a b
  clear h
  by_cases ht : twoB n.nodes a b = true
  · rw [if_pos ht]
    rw [ht] at h2
    by_cases hl : (16384 : Int) < l.length
    · rw [if_pos hl]
      have H2 := Aside0.mk h2
      clear h2 h3 hno
      have e1 : decide ((16384 : Int) < (l.length : Int)) = true := by simpa using hl
      go_enter Try.func10, Try.ntmps10
      go_wp2_with (first | (go_at_call 27; refine H2.out.mono ?_; rintro e w' ⟨rfl, rfl⟩))
      go_ret
      exact ⟨rfl, rfl⟩
    · have ho : openB n a b = false := by
        cases e : openB n a b
        · rfl
        · exact absurd ⟨e, hl⟩ hno
      rw [if_neg hl, ho]
      rw [ho] at h3
      have H2 := Aside0.mk h2
      have H3 := Aside0.mk h3
      clear h2 h3 hno
      have e1 : decide ((16384 : Int) < (l.length : Int)) = false := by simpa using hl
      go_enter Try.func10, Try.ntmps10
      go_wp2_with (first
        | (go_at_call 27; refine H2.out.mono ?_; rintro e w' ⟨rfl, rfl⟩)
        | (go_at_call 26; refine H3.out.mono ?_; rintro e w' ⟨rfl, rfl⟩))
      go_ret
      exact ⟨rfl, rfl⟩
  · rw [if_neg ht]
    rw [Bool.eq_false_iff.2 ht] at h2
    have H2 := Aside0.mk h2
    clear h2 h3 hno
    go_enter Try.func10, Try.ntmps10
    go_wp2_with (first | (go_at_call 27; refine H2.out.mono ?_; rintro e w' ⟨rfl, rfl⟩))
    go_ret
    exact ⟨rfl, rfl⟩
set_option maxHeartbeats 4000000 in
set_option maxRecDepth 100000 in
theorem send_ok (n : NetS) (g : Nat) (fp : Nat → Prop) (w : World) (h : IsNet w g fp n) (a b : Int) (A : Option Addr) (c : Nat) (l : List Int) (hm : n.nodes ≤ 15) (hC : Kd.C (Kd.int .u8) w A l.length l) (hc : l.length ≤ c) (hl : n.all.length < 1000000) (ho : openB n a b = true) (hll : ¬ (16384 : Int) < l.length) :
    Calls Try.prog 10 #[.pointer (some ⟨g, 0, none⟩), .int .i64 a, .int .i64 b, .slice A l.length c] w fun e w' => e = E (if putB n = true then 0 else 3) ∧ ∃ fp' : Nat → Prop, IsNet w' g fp' (putN n ⟨a, b, l⟩) ∧ (∀ k, fp' k → fp k ∨ w.heap.size ≤ k) ∧ Fr fp w w' := by
  have h2 := two_r n _ fp w (.inr ⟨g, rfl, h⟩) a b
  have h3 := open_r n _ fp w (.inr ⟨g, rfl, h⟩) hm a b
  have ht : twoB n.nodes a b = true := by unfold openB at ho; simp at ho; exact ho.1
  rw [ht] at h2
  rw [ho] at h3
  have H2 := Aside0.mk h2
  have H3 := Aside0.mk h3
  have HPUT := Aside0.mk (fun q W hW Am cm hm hcm hq => put_c n g fp q W hW a b Am cm l hm hcm hq hl)
  have HCL := Aside0.mk (bytes_c A c l w.drew (Kd.C_below hC (below_drew (Below.refl _ _))) hc (by omega))
  have HI := Aside0.mk h.drew
  have HFP := Aside0.mk h.lts
  have HB := Aside0.mk (below_drew (Below.refl w.heap.size w))
  have e1 : decide ((16384 : Int) < (l.length : Int)) = false := by simpa using hll
  clear h2 h3 h hm hC hc hl ho ht
  generalize putN n ⟨a, b, l⟩ = n2 at *
  cases hp : putB n
  all_goals (rw [hp] at HPUT; clear hp)
  all_goals (
    go_enter Try.func10, Try.ntmps10
    go_wp2_with (first
      | (go_at_call 27; refine H2.out.mono ?_; rintro e w' ⟨rfl, rfl⟩)
      | (go_at_call 26; refine H3.out.mono ?_; rintro e w' ⟨rfl, rfl⟩))
    refine start_ (n := 11) (S := fun w' => True) (ds := []) #[false, false, false, false, false, false, false, false, false, false, false] (by kernel_rfl) rfl rfl trivial (fun hHeld => ?_)
    refine with_tabW snd.tab7 snd.bits7 (fun HT_ HW_ => ?_)
    -- 0: Op.move
    refine pure_ (i := 0) (N := some 26) (v := ?_) (a' := ?_) #[true, false, false, false, false, false, false, false, false, false, false] rfl rfl (any_of HT_.out (by kernel_rfl)) (fun _ _ _ h => h) (Or.inl ⟨by rfl, ?_⟩) ?_ ?_
    rotate_left; (intro w'; go_simp; with_reducible rfl); rotate_left; (simp only [Act.put, List.setIfInBounds_toArray, List.set_cons_zero, List.set_cons_succ, i64_w, i32_w]; rfl)
    -- 1: Op.nilCheck
    refine pure_ (i := 1) (N := some 27) (v := ?_) (a' := ?_) #[true, true, false, false, false, false, false, false, false, false, false] rfl rfl (any_of HT_.out (by kernel_rfl)) (fun _ _ _ h => h) (Or.inl ⟨by rfl, ?_⟩) ?_ ?_
    rotate_left; (intro w'; go_simp; with_reducible rfl); rotate_left; (simp only [Act.put, List.setIfInBounds_toArray, List.set_cons_zero, List.set_cons_succ, i64_w, i32_w]; rfl)
    -- 2: Op.fieldAddr
    refine pure_ (i := 2) (N := some 28) (v := ?_) (a' := ?_) #[true, true, true, false, false, false, false, false, false, false, false] rfl rfl (any_of HT_.out (by kernel_rfl)) (fun _ _ _ h => h) (Or.inl ⟨by rfl, ?_⟩) ?_ ?_
    rotate_left; (intro w'; go_simp; with_reducible rfl); rotate_left; (simp only [Act.put, List.setIfInBounds_toArray, List.set_cons_zero, List.set_cons_succ, i64_w, i32_w]; rfl)
    -- 3: Op.move
    refine pure_ (i := 3) (N := some 29) (v := ?_) (a' := ?_) #[true, true, true, true, false, false, false, false, false, false, false] rfl rfl (any_of HT_.out (by kernel_rfl)) (fun _ _ _ h => h) (Or.inl ⟨by rfl, ?_⟩) ?_ ?_
    rotate_left; (intro w'; go_simp; with_reducible rfl); rotate_left; (simp only [Act.put, List.setIfInBounds_toArray, List.set_cons_zero, List.set_cons_succ, i64_w, i32_w]; rfl)
    -- 4: Op.move
    refine pure_ (i := 4) (N := some 30) (v := ?_) (a' := ?_) #[true, true, true, true, true, false, false, false, false, false, false] rfl rfl (any_of HT_.out (by kernel_rfl)) (fun _ _ _ h => h) (Or.inl ⟨by rfl, ?_⟩) ?_ ?_
    rotate_left; (intro w'; go_simp; with_reducible rfl); rotate_left; (simp only [Act.put, List.setIfInBounds_toArray, List.set_cons_zero, List.set_cons_succ, i64_w, i32_w]; rfl)
    -- 5: Op.move
    refine pure_ (i := 5) (N := some 31) (v := ?_) (a' := ?_) #[true, true, true, true, true, true, false, false, false, false, false] rfl rfl (any_of HT_.out (by kernel_rfl)) (fun _ _ _ h => h) (Or.inl ⟨by rfl, ?_⟩) ?_ ?_
    rotate_left; (intro w'; go_simp; with_reducible rfl); rotate_left; (simp only [Act.put, List.setIfInBounds_toArray, List.set_cons_zero, List.set_cons_succ, i64_w, i32_w]; rfl)
    -- 6: Op.call
    refine one_ (i := 6) (N := some 32) #[true, true, true, true, true, true, true, false, false, false, false] rfl rfl (one_of HT_.out (by kernel_rfl)) (by decide) (fun K hK => ?_)
    refine goes_ Try.func29 (by kernel_rfl) rfl #[.slice A l.length c] (by rfl) rfl rfl (by (try simp only [List.map_toArray, List.map_cons, List.map_nil]); first | done | rfl) ?_
    refine HCL.out.mono ?_
    rintro e w2 ⟨v2, rfl, hR, hB⟩
    obtain ⟨Ab, cb, rfl⟩ := Kd.R_slice hR
    have HI2 := Aside0.mk (HI.out.fr (Fr.of_below hB (fun _ => False)) (fun _ _ h => h))
    have HB2 := Aside0.mk (dlv_end (b := 0) (v := undef) HB.out hB)
    have HR2 := Aside0.mk (Kd.R_bound hR)
    clear hR hB
    refine ⟨_, rfl, ?_⟩
    refine hK.out _ _ trivial (fun hHeld => ?_)
    clear hK K
    refine norm_ (a' := ?_) ?_ ?_
    rotate_left; (show Act.put _ (some 32) _ = _; simp only [Act.put, List.setIfInBounds_toArray, List.set_cons_zero, List.set_cons_succ, i64_w, i32_w]; rfl)
    -- 7: Op.build
    refine pure_ (i := 7) (N := some 33) (v := ?_) (a' := ?_) #[true, true, true, true, true, true, true, true, false, false, false] rfl rfl (any_of HT_.out (by kernel_rfl)) (fun _ _ _ h => h) (Or.inl ⟨by rfl, ?_⟩) ?_ ?_
    rotate_left; (intro w'; go_simp; with_reducible rfl); rotate_left; (simp only [Act.put, List.setIfInBounds_toArray, List.set_cons_zero, List.set_cons_succ, i64_w, i32_w]; rfl)
    -- 8: Op.call
    refine one_ (i := 8) (N := some 34) #[true, true, true, true, true, true, true, true, true, false, false] rfl rfl (one_of HT_.out (by kernel_rfl)) (by decide) (fun K hK => ?_)
    refine goes_ Try.func28 (by kernel_rfl) rfl #[.pointer (some ⟨g, 0, none⟩), .agg #[.int .i64 a, .int .i64 b, .slice Ab l.length cb]] (by rfl) rfl rfl (by (try simp only [List.map_toArray, List.map_cons, List.map_nil]); first | done | rfl) ?_
    refine (HPUT.out _ _ HI2.out _ _ (Kd.R_F HR2.out) (Kd.R_reads' HR2.out).2.1 (fun k hk => ⟨hk.2.2.1, fun hf => by have := HFP.out k hf; have := hk.2.1; have := HB.out.size; omega⟩)).mono ?_
    rintro e w4 ⟨rfl, ⟨fp', hI3, hs3⟩, hF3⟩
    have HE := Aside0.mk (dbl_end HB2.out hI3 hs3 hF3 (fun k hk => Nat.le_trans HB.out.size hk.2.1))
    clear hI3 hs3 hF3
    refine ⟨_, rfl, ?_⟩
    refine hK.out _ _ trivial (fun hHeld => ?_)
    clear hK K
    refine norm_ (a' := ?_) ?_ ?_
    rotate_left; (show Act.put _ (some 34) _ = _; simp only [Act.put, List.setIfInBounds_toArray, List.set_cons_zero, List.set_cons_succ, i64_w, i32_w]; rfl)
    -- 9: Op.unOp
    refine pure_ (i := 9) (N := some 35) (v := ?_) (a' := ?_) #[true, true, true, true, true, true, true, true, true, true, false] rfl rfl (any_of HT_.out (by kernel_rfl)) (fun _ _ _ h => h) (Or.inl ⟨by rfl, ?_⟩) ?_ ?_
    rotate_left; (intro w'; go_simp; with_reducible rfl); rotate_left; (simp only [Act.put, List.setIfInBounds_toArray, List.set_cons_zero, List.set_cons_succ, i64_w, i32_w]; rfl)
    -- 10: Op.assign
    refine pure_ (i := 10) (N := some 25) (v := ?_) (a' := ?_) #[true, true, true, true, true, true, true, true, true, true, true] rfl rfl (any_of HT_.out (by kernel_rfl)) (fun _ _ _ h => h) (Or.inl ⟨by rfl, ?_⟩) ?_ ?_
    rotate_left; (intro w'; go_simp; with_reducible rfl); rotate_left; (simp only [Act.put, List.setIfInBounds_toArray, List.set_cons_zero, List.set_cons_succ, i64_w, i32_w]; rfl)
    refine done_ (done_of HT_.out (by kernel_rfl)) ?_
    go_wp2
    go_ret
    exact ⟨rfl, HE.out⟩)
theorem send_r (n : NetS) (p : Option Addr) (fp : Nat → Prop) (w : World) (h : Recv w p fp n) (a b : Int) (A : Option Addr) (c : Nat) (l : List Int) (hm : n.nodes ≤ 15) (hC : Kd.C (Kd.int .u8) w A l.length l) (hc : l.length ≤ c) (hl : n.all.length < 1000000) :
    Calls Try.prog 10 #[.pointer p, .int .i64 a, .int .i64 b, .slice A l.length c] w fun e w' => e = E (sendE n a b l) ∧ ∃ fp' : Nat → Prop, Recv w' p fp' (sendN n a b l) ∧ (∀ k, fp' k → fp k ∨ w.heap.size ≤ k) ∧ Fr fp w w' := by
  unfold sendN
  by_cases hh : openB n a b = true ∧ ¬ (16384 : Int) < l.length
  · have ht : twoB n.nodes a b = true := by have := hh.1; unfold openB at this; simp at this; exact this.1
    rw [if_pos hh]
    unfold sendE
    rw [if_pos ht, if_neg hh.2, if_pos hh.1]
    rcases h with ⟨rfl, rfl⟩ | ⟨g, rfl, h⟩
    · have := twoB_spec ht
      simp only at this
      omega
    · refine (send_ok n g fp w h a b A c l hm hC hc hl hh.1 hh.2).mono ?_
      rintro e w' ⟨rfl, fp', h1, h2, h3⟩
      exact ⟨rfl, fp', .inr ⟨g, rfl, h1⟩, h2, h3⟩
  · rw [if_neg hh]
    refine (send_no n p fp w h a b A c l hm hh).mono ?_
    rintro e w' ⟨rfl, rfl⟩
    exact ⟨rfl, fp, h, fun k hk => .inl hk, Fr.refl _ _⟩
end Go.Proofs.Ytnaefndclalepaa.Net
