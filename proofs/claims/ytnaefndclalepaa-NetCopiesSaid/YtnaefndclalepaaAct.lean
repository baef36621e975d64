/- An act: both nets are called. -/
import Derived.Test.YtnaefndclalepaaRel
namespace Go.Proofs.Ytnaefndclalepaa.Net
set_option linter.unusedVariables false
set_option linter.unusedSimpArgs false
open Go.RowKit Go.Shelf Go.Proofs.YtnaefndclalepaaW.PrintWords Go.Proofs.YtnaefndclalepaaW.PrintLast Go.Proofs.YtnaefndclalepaaW.PrintMore Go.Proofs.Ytnaefndclalepaa.XN
def act.T4 : Bool × List (List Nat × List Nat) := (true, [([], []), ([], []), ([1], [1]), ([], []), ([3], [3]), ([], []), ([0, 2, 4, 5], [0, 2, 4, 5]), ([], []), ([], []), ([8], [8]), ([], []), ([10], [10]), ([], []), ([12], [12]), ([7, 9, 11, 13, 6], [7, 9, 11, 13]), ([6, 14], [6, 14]), ([15, 14, 0, 1, 2, 3, 4, 5, 6, 7, 8, 9, 10, 11, 12, 13, 14, 15], [15])])
def act.B4 : List Nat := [0, 0, 2, 0, 8, 0, 63, 0, 0, 256, 0, 1024, 0, 4096, 16383, 32767, 65535]
theorem act.tab4 : rtab .any (opsOf Try.f22 4) = act.T4 := by kernel_rfl
theorem act.bits4 : waitsOk act.T4.2 act.B4 = true := by kernel_rfl
def act.T24 : Bool × List (List Nat × List Nat) := (true, [([], []), ([], []), ([1], [1]), ([0, 2], [0, 2]), ([], []), ([], []), ([5], [5]), ([4, 6, 3], [4, 6]), ([3, 7], [3, 7]), ([8, 7, 0, 1, 2, 3, 4, 5, 6, 7, 8], [8])])
def act.B24 : List Nat := [0, 0, 2, 7, 0, 0, 32, 127, 255, 511]
theorem act.tab24 : rtab .any (opsOf Try.f22 24) = act.T24 := by kernel_rfl
theorem act.bits24 : waitsOk act.T24.2 act.B24 = true := by kernel_rfl
def act.T26 : Bool × List (List Nat × List Nat) := (true, [([], []), ([], []), ([1], [1]), ([0, 2], [0, 2]), ([], []), ([], []), ([5], [5]), ([4, 6, 3], [4, 6]), ([3, 7], [3, 7]), ([8, 7, 0, 1, 2, 3, 4, 5, 6, 7, 8], [8])])
def act.B26 : List Nat := [0, 0, 2, 7, 0, 0, 32, 127, 255, 511]
theorem act.tab26 : rtab .any (opsOf Try.f22 26) = act.T26 := by kernel_rfl
theorem act.bits26 : waitsOk act.T26.2 act.B26 = true := by kernel_rfl
def act.T28 : Bool × List (List Nat × List Nat) := (true, [([], []), ([], []), ([1], [1]), ([], []), ([3], [3]), ([0, 2, 4], [0, 2, 4]), ([], []), ([], []), ([7], [7]), ([], []), ([9], [9]), ([6, 8, 10, 5], [6, 8, 10]), ([5, 11], [5, 11]), ([12, 11, 0, 1, 2, 3, 4, 5, 6, 7, 8, 9, 10, 11, 12], [12])])
def act.B28 : List Nat := [0, 0, 2, 0, 8, 31, 0, 0, 128, 0, 512, 2047, 4095, 8191]
theorem act.tab28 : rtab .any (opsOf Try.f22 28) = act.T28 := by kernel_rfl
theorem act.bits28 : waitsOk act.T28.2 act.B28 = true := by kernel_rfl
def act.T30 : Bool × List (List Nat × List Nat) := (true, [([], []), ([], []), ([1], [1]), ([], []), ([3], [3]), ([0, 2, 4], [0, 2, 4]), ([], []), ([], []), ([7], [7]), ([], []), ([9], [9]), ([6, 8, 10, 5], [6, 8, 10]), ([5, 11], [5, 11]), ([12, 11, 0, 1, 2, 3, 4, 5, 6, 7, 8, 9, 10, 11, 12], [12])])
def act.B30 : List Nat := [0, 0, 2, 0, 8, 31, 0, 0, 128, 0, 512, 2047, 4095, 8191]
theorem act.tab30 : rtab .any (opsOf Try.f22 30) = act.T30 := by kernel_rfl
theorem act.bits30 : waitsOk act.T30.2 act.B30 = true := by kernel_rfl

set_option maxHeartbeats 8000000 in
set_option maxRecDepth 100000 in
theorem act2_c {w W : World} {p : Option Addr} {n : NetS} {g : Nat} {m : RefS} {fp0 fr0 Q okx : Nat → Prop} {K : Nat} (h : J w W p n g m fp0 fr0 Q (fun _ => False)) (hR : Rel n m K) (hK : K < 9000) (d1 d2 d3 : Int) (A4 : Option Addr) (c4 : Nat) (x4 : List Int) (hF : Kd.F (Kd.int .u8) W okx A4 x4.length x4) (hok : ∀ k, okx k → Q k) (hc4 : x4.length ≤ c4) :
    Calls Try.prog 22 #[.pointer p, .pointer (some ⟨g, 0, none⟩), .agg #[.int .i64 2, .int .i64 d1, .int .i64 d2, .int .i64 d3, .slice A4 x4.length c4]] W fun e W' => e = .returned (.bool true) ∧ J w W' p (dropN n d3) g (rdropN m d3) fp0 fr0 Q (fun _ => False) ∧ Keeps Q W W' := by
  have HQL := Aside0.mk (show ∀ k, Q k → k < W.heap.size by obtain ⟨_, _, _, _, _, _, _, _, h7, _⟩ := h; exact fun k hk => (h7 k hk).1)
  have HJ0 := Aside0.mk h
  have hbag := hR.bag
  obtain ⟨e1, he1, he2⟩ : ∃ e1, dropE n d3 = e1 ∧ ratE m d3 = e1 := ⟨_, rfl, by rw [← hR.dropE_]⟩
  have HN := Aside0.mk (fun (W' : World) {B : Nat → Prop} (hj : J w W' p n g m fp0 fr0 Q B) => hj.drop_ d3)
  have HM := Aside0.mk (fun (W' : World) (n2 : NetS) {B : Nat → Prop} (hj : J w W' p n2 g m fp0 fr0 Q B) => hj.rdrop_ (by omega) d3)
  rw [he1] at HN
  rw [he2] at HM
  have HR := Aside0.mk hR
  clear h hR he1 he2 hF hok hbag
  go_enter Try.func22, Try.ntmps22
  go_wp2
  refine start_ (n := 10) (S := fun w' => w'.cell? ⟨W.heap.size, 0, none⟩ = some (.int .i64 2) ∧ w'.cell? ⟨W.heap.size, 1, none⟩ = some (.int .i64 d1) ∧ w'.cell? ⟨W.heap.size, 2, none⟩ = some (.int .i64 d2) ∧ w'.cell? ⟨W.heap.size, 3, none⟩ = some (.int .i64 d3) ∧ w'.cell? ⟨W.heap.size, 4, none⟩ = some (.slice A4 x4.length c4)) (ds := []) #[false, false, false, false, false, false, false, false, false, false] (by kernel_rfl) rfl rfl ⟨(cells_at (blk_drew (heap_alloc_new W (.cells #[.int .i64 2, .int .i64 d1, .int .i64 d2, .int .i64 d3, .slice A4 x4.length c4] 41))) (j := 0) rfl).1, (cells_at (blk_drew (heap_alloc_new W (.cells #[.int .i64 2, .int .i64 d1, .int .i64 d2, .int .i64 d3, .slice A4 x4.length c4] 41))) (j := 1) rfl).1, (cells_at (blk_drew (heap_alloc_new W (.cells #[.int .i64 2, .int .i64 d1, .int .i64 d2, .int .i64 d3, .slice A4 x4.length c4] 41))) (j := 2) rfl).1, (cells_at (blk_drew (heap_alloc_new W (.cells #[.int .i64 2, .int .i64 d1, .int .i64 d2, .int .i64 d3, .slice A4 x4.length c4] 41))) (j := 3) rfl).1, (cells_at (blk_drew (heap_alloc_new W (.cells #[.int .i64 2, .int .i64 d1, .int .i64 d2, .int .i64 d3, .slice A4 x4.length c4] 41))) (j := 4) rfl).1⟩ (fun hHeld => ?_)
  refine with_tabW act.tab24 act.bits24 (fun HT_ HW_ => ?_)
  have HJ := Aside0.mk (HJ0.out.alloc (.cells #[.int .i64 2, .int .i64 d1, .int .i64 d2, .int .i64 d3, .slice A4 x4.length c4] 41)).drew
  have HX := Aside0.mk (blk_drew (heap_alloc_new W (.cells #[.int .i64 2, .int .i64 d1, .int .i64 d2, .int .i64 d3, .slice A4 x4.length c4] 41)))
  have HKP := Aside0.mk (show Keeps Q W (W.alloc (.cells #[.int .i64 2, .int .i64 d1, .int .i64 d2, .int .i64 d3, .slice A4 x4.length c4] 41)).drew from ⟨by simp, fun k hk => Below.heap_alloc W _ k (HQL.out k hk)⟩)
  have hBX : (fun k => (fun _ : Nat => False) k ∨ k = W.heap.size) W.heap.size := .inr rfl
  clear HJ0
  obtain ⟨BB, hBB⟩ : ∃ BB : Nat → Prop, BB = fun k => (fun _ : Nat => False) k ∨ k = W.heap.size := ⟨_, rfl⟩
  rw [← hBB] at HJ hBX
  clear hBB
  refine pure_ (i := 0) (N := some 116) (v := ?_) (a' := ?_) #[true, false, false, false, false, false, false, false, false, false] rfl rfl (any_of HT_.out (by kernel_rfl)) (fun _ _ _ h => h) (Or.inl ⟨by rfl, ?_⟩) ?_ ?_
  rotate_left; (intro w'; go_simp; with_reducible rfl); rotate_left; (simp only [Act.put, List.setIfInBounds_toArray, List.set_cons_zero, List.set_cons_succ, i64_w, i32_w]; rfl)
  refine pure_ (i := 1) (N := some 117) (v := ?_) (a' := ?_) #[true, true, false, false, false, false, false, false, false, false] rfl rfl (any_of HT_.out (by kernel_rfl)) (fun _ _ _ h => h) (Or.inl ⟨by rfl, ?_⟩) ?_ ?_
  rotate_left; (intro w'; go_simp; with_reducible rfl); rotate_left; (simp only [Act.put, List.setIfInBounds_toArray, List.set_cons_zero, List.set_cons_succ, i64_w, i32_w]; rfl)
  refine pure_ (i := 4) (N := some 120) (v := ?_) (a' := ?_) #[true, true, false, false, true, false, false, false, false, false] rfl rfl (any_of HT_.out (by kernel_rfl)) (fun _ _ _ h => h) (Or.inl ⟨by rfl, ?_⟩) ?_ ?_
  rotate_left; (intro w'; go_simp; with_reducible rfl); rotate_left; (simp only [Act.put, List.setIfInBounds_toArray, List.set_cons_zero, List.set_cons_succ, i64_w, i32_w]; rfl)
  refine pure_ (i := 5) (N := some 121) (v := ?_) (a' := ?_) #[true, true, false, false, true, true, false, false, false, false] rfl rfl (any_of HT_.out (by kernel_rfl)) (fun _ _ _ h => h) (Or.inl ⟨by rfl, ?_⟩) ?_ ?_
  rotate_left; (intro w'; go_simp; with_reducible rfl); rotate_left; (simp only [Act.put, List.setIfInBounds_toArray, List.set_cons_zero, List.set_cons_succ, i64_w, i32_w]; rfl)
  refine take_ (i := 2) (N := some 118) (v := ?_) (a' := ?_) #[true, true, true, false, true, true, false, false, false, false] rfl rfl (take_ofW HT_.out HW_.out (by kernel_rfl)) (fun _ _ _ h => h) (Or.inl ⟨by rfl, ?_⟩) hHeld ?_ ?_
  rotate_left; (rintro w' ⟨s0, s1, s2, s3, s4⟩; go_simp; with_reducible rfl); rotate_left; (simp only [Act.put, List.setIfInBounds_toArray, List.set_cons_zero, List.set_cons_succ, i64_w, i32_w]; rfl)
  refine take_ (i := 6) (N := some 122) (v := ?_) (a' := ?_) #[true, true, true, false, true, true, true, false, false, false] rfl rfl (take_ofW HT_.out HW_.out (by kernel_rfl)) (fun _ _ _ h => h) (Or.inl ⟨by rfl, ?_⟩) hHeld ?_ ?_
  rotate_left; (rintro w' ⟨s0, s1, s2, s3, s4⟩; go_simp; with_reducible rfl); rotate_left; (simp only [Act.put, List.setIfInBounds_toArray, List.set_cons_zero, List.set_cons_succ, i64_w, i32_w]; rfl)
  refine one_ (i := 3) (N := some 119) #[true, true, true, true, true, true, true, false, false, false] rfl rfl (one_of HT_.out (by kernel_rfl)) (by decide) (fun K hK => ?_)
  refine goes_ Try.func15 (by kernel_rfl) rfl #[.pointer p, .int .i64 d3] (by rfl) rfl rfl (by (try simp only [List.map_toArray, List.map_cons, List.map_nil]); first | done | rfl) ?_
  refine (HN.out _ HJ.out).mono ?_
  rintro e w2 ⟨rfl, hj, hk⟩
  have HJ2 := Aside0.mk hj
  have HX2 := Aside0.mk ((hk.2 _ (.inr hBX)).trans HX.out)
  have HKP2 := Aside0.mk (HKP.out.trans (hk.mono (fun k h => .inl h)))
  clear HJ HX HKP hj hk
  have HJ := HJ2
  have HX := HX2
  have HKP := HKP2
  clear HJ2 HX2 HKP2
  refine ⟨_, rfl, ?_⟩
  refine hK.out _ _ ⟨(cells_at HX.out (j := 0) rfl).1, (cells_at HX.out (j := 1) rfl).1, (cells_at HX.out (j := 2) rfl).1, (cells_at HX.out (j := 3) rfl).1, (cells_at HX.out (j := 4) rfl).1⟩ (fun hHeld => ?_)
  clear hK K
  refine norm_ (a' := ?_) ?_ ?_
  rotate_left; (show Act.put _ (some 119) _ = _; simp only [Act.put, List.setIfInBounds_toArray, List.set_cons_zero, List.set_cons_succ, i64_w, i32_w]; rfl)
  refine one_ (i := 7) (N := some 123) #[true, true, true, true, true, true, true, true, false, false] rfl rfl (one_of HT_.out (by kernel_rfl)) (by decide) (fun K hK => ?_)
  refine goes_ Try.func39 (by kernel_rfl) rfl #[.pointer (some ⟨g, 0, none⟩), .int .i64 d3] (by rfl) rfl rfl (by (try simp only [List.map_toArray, List.map_cons, List.map_nil]); first | done | rfl) ?_
  refine (HM.out _ _ HJ.out).mono ?_
  rintro e w2 ⟨rfl, hj, hk⟩
  have HJ2 := Aside0.mk hj
  have HX2 := Aside0.mk ((hk.2 _ (.inr hBX)).trans HX.out)
  have HKP2 := Aside0.mk (HKP.out.trans (hk.mono (fun k h => .inl h)))
  clear HJ HX HKP hj hk
  have HJ := HJ2
  have HX := HX2
  have HKP := HKP2
  clear HJ2 HX2 HKP2
  refine ⟨_, rfl, ?_⟩
  refine hK.out _ _ ⟨(cells_at HX.out (j := 0) rfl).1, (cells_at HX.out (j := 1) rfl).1, (cells_at HX.out (j := 2) rfl).1, (cells_at HX.out (j := 3) rfl).1, (cells_at HX.out (j := 4) rfl).1⟩ (fun hHeld => ?_)
  clear hK K
  refine norm_ (a' := ?_) ?_ ?_
  rotate_left; (show Act.put _ (some 123) _ = _; simp only [Act.put, List.setIfInBounds_toArray, List.set_cons_zero, List.set_cons_succ, i64_w, i32_w]; rfl)
  refine pure_ (i := 8) (N := some 124) (v := ?_) (a' := ?_) #[true, true, true, true, true, true, true, true, true, false] rfl rfl (any_of HT_.out (by kernel_rfl)) (fun _ _ _ h => h) (Or.inl ⟨by rfl, ?_⟩) ?_ ?_
  rotate_left; (intro w'; go_simp; with_reducible rfl); rotate_left; (simp only [Act.put, List.setIfInBounds_toArray, List.set_cons_zero, List.set_cons_succ, i64_w, i32_w]; rfl)
  refine pure_ (i := 9) (N := some 6) (v := ?_) (a' := ?_) #[true, true, true, true, true, true, true, true, true, true] rfl rfl (any_of HT_.out (by kernel_rfl)) (fun _ _ _ h => h) (Or.inl ⟨by rfl, ?_⟩) ?_ ?_
  rotate_left; (intro w'; go_simp; with_reducible rfl); rotate_left; (simp only [Act.put, List.setIfInBounds_toArray, List.set_cons_zero, List.set_cons_succ, i64_w, i32_w]; rfl)
  refine done_ (done_of HT_.out (by kernel_rfl)) ?_
  clear hHeld
  go_wp2
  go_ret
  exact ⟨rfl, HJ.out.weak (fun k hk => .inl hk) (fun k hk => hk.elim), HKP.out⟩

set_option maxHeartbeats 8000000 in
set_option maxRecDepth 100000 in
theorem act3_c {w W : World} {p : Option Addr} {n : NetS} {g : Nat} {m : RefS} {fp0 fr0 Q okx : Nat → Prop} {K : Nat} (h : J w W p n g m fp0 fr0 Q (fun _ => False)) (hR : Rel n m K) (hK : K < 9000) (d1 d2 d3 : Int) (A4 : Option Addr) (c4 : Nat) (x4 : List Int) (hF : Kd.F (Kd.int .u8) W okx A4 x4.length x4) (hok : ∀ k, okx k → Q k) (hc4 : x4.length ≤ c4) :
    Calls Try.prog 22 #[.pointer p, .pointer (some ⟨g, 0, none⟩), .agg #[.int .i64 3, .int .i64 d1, .int .i64 d2, .int .i64 d3, .slice A4 x4.length c4]] W fun e W' => e = .returned (.bool true) ∧ J w W' p (dblN n d3) g (rdblN m d3) fp0 fr0 Q (fun _ => False) ∧ Keeps Q W W' := by
  have HQL := Aside0.mk (show ∀ k, Q k → k < W.heap.size by obtain ⟨_, _, _, _, _, _, _, _, h7, _⟩ := h; exact fun k hk => (h7 k hk).1)
  have HJ0 := Aside0.mk h
  have hbag := hR.bag
  obtain ⟨e1, he1, he2⟩ : ∃ e1, dblE n d3 = e1 ∧ rdblE m d3 = e1 := ⟨_, rfl, by rw [← hR.dblE_]⟩
  have HN := Aside0.mk (fun (W' : World) {B : Nat → Prop} (hj : J w W' p n g m fp0 fr0 Q B) => hj.dbl_ d3)
  have HM := Aside0.mk (fun (W' : World) (n2 : NetS) {B : Nat → Prop} (hj : J w W' p n2 g m fp0 fr0 Q B) => hj.rdbl_ (by omega) d3)
  rw [he1] at HN
  rw [he2] at HM
  have HR := Aside0.mk hR
  clear h hR he1 he2 hF hok hbag
  go_enter Try.func22, Try.ntmps22
  go_wp2
  refine start_ (n := 10) (S := fun w' => w'.cell? ⟨W.heap.size, 0, none⟩ = some (.int .i64 3) ∧ w'.cell? ⟨W.heap.size, 1, none⟩ = some (.int .i64 d1) ∧ w'.cell? ⟨W.heap.size, 2, none⟩ = some (.int .i64 d2) ∧ w'.cell? ⟨W.heap.size, 3, none⟩ = some (.int .i64 d3) ∧ w'.cell? ⟨W.heap.size, 4, none⟩ = some (.slice A4 x4.length c4)) (ds := []) #[false, false, false, false, false, false, false, false, false, false] (by kernel_rfl) rfl rfl ⟨(cells_at (blk_drew (heap_alloc_new W (.cells #[.int .i64 3, .int .i64 d1, .int .i64 d2, .int .i64 d3, .slice A4 x4.length c4] 41))) (j := 0) rfl).1, (cells_at (blk_drew (heap_alloc_new W (.cells #[.int .i64 3, .int .i64 d1, .int .i64 d2, .int .i64 d3, .slice A4 x4.length c4] 41))) (j := 1) rfl).1, (cells_at (blk_drew (heap_alloc_new W (.cells #[.int .i64 3, .int .i64 d1, .int .i64 d2, .int .i64 d3, .slice A4 x4.length c4] 41))) (j := 2) rfl).1, (cells_at (blk_drew (heap_alloc_new W (.cells #[.int .i64 3, .int .i64 d1, .int .i64 d2, .int .i64 d3, .slice A4 x4.length c4] 41))) (j := 3) rfl).1, (cells_at (blk_drew (heap_alloc_new W (.cells #[.int .i64 3, .int .i64 d1, .int .i64 d2, .int .i64 d3, .slice A4 x4.length c4] 41))) (j := 4) rfl).1⟩ (fun hHeld => ?_)
  refine with_tabW act.tab26 act.bits26 (fun HT_ HW_ => ?_)
  have HJ := Aside0.mk (HJ0.out.alloc (.cells #[.int .i64 3, .int .i64 d1, .int .i64 d2, .int .i64 d3, .slice A4 x4.length c4] 41)).drew
  have HX := Aside0.mk (blk_drew (heap_alloc_new W (.cells #[.int .i64 3, .int .i64 d1, .int .i64 d2, .int .i64 d3, .slice A4 x4.length c4] 41)))
  have HKP := Aside0.mk (show Keeps Q W (W.alloc (.cells #[.int .i64 3, .int .i64 d1, .int .i64 d2, .int .i64 d3, .slice A4 x4.length c4] 41)).drew from ⟨by simp, fun k hk => Below.heap_alloc W _ k (HQL.out k hk)⟩)
  have hBX : (fun k => (fun _ : Nat => False) k ∨ k = W.heap.size) W.heap.size := .inr rfl
  clear HJ0
  obtain ⟨BB, hBB⟩ : ∃ BB : Nat → Prop, BB = fun k => (fun _ : Nat => False) k ∨ k = W.heap.size := ⟨_, rfl⟩
  rw [← hBB] at HJ hBX
  clear hBB
  refine pure_ (i := 0) (N := some 127) (v := ?_) (a' := ?_) #[true, false, false, false, false, false, false, false, false, false] rfl rfl (any_of HT_.out (by kernel_rfl)) (fun _ _ _ h => h) (Or.inl ⟨by rfl, ?_⟩) ?_ ?_
  rotate_left; (intro w'; go_simp; with_reducible rfl); rotate_left; (simp only [Act.put, List.setIfInBounds_toArray, List.set_cons_zero, List.set_cons_succ, i64_w, i32_w]; rfl)
  refine pure_ (i := 1) (N := some 128) (v := ?_) (a' := ?_) #[true, true, false, false, false, false, false, false, false, false] rfl rfl (any_of HT_.out (by kernel_rfl)) (fun _ _ _ h => h) (Or.inl ⟨by rfl, ?_⟩) ?_ ?_
  rotate_left; (intro w'; go_simp; with_reducible rfl); rotate_left; (simp only [Act.put, List.setIfInBounds_toArray, List.set_cons_zero, List.set_cons_succ, i64_w, i32_w]; rfl)
  refine pure_ (i := 4) (N := some 131) (v := ?_) (a' := ?_) #[true, true, false, false, true, false, false, false, false, false] rfl rfl (any_of HT_.out (by kernel_rfl)) (fun _ _ _ h => h) (Or.inl ⟨by rfl, ?_⟩) ?_ ?_
  rotate_left; (intro w'; go_simp; with_reducible rfl); rotate_left; (simp only [Act.put, List.setIfInBounds_toArray, List.set_cons_zero, List.set_cons_succ, i64_w, i32_w]; rfl)
  refine pure_ (i := 5) (N := some 132) (v := ?_) (a' := ?_) #[true, true, false, false, true, true, false, false, false, false] rfl rfl (any_of HT_.out (by kernel_rfl)) (fun _ _ _ h => h) (Or.inl ⟨by rfl, ?_⟩) ?_ ?_
  rotate_left; (intro w'; go_simp; with_reducible rfl); rotate_left; (simp only [Act.put, List.setIfInBounds_toArray, List.set_cons_zero, List.set_cons_succ, i64_w, i32_w]; rfl)
  refine take_ (i := 2) (N := some 129) (v := ?_) (a' := ?_) #[true, true, true, false, true, true, false, false, false, false] rfl rfl (take_ofW HT_.out HW_.out (by kernel_rfl)) (fun _ _ _ h => h) (Or.inl ⟨by rfl, ?_⟩) hHeld ?_ ?_
  rotate_left; (rintro w' ⟨s0, s1, s2, s3, s4⟩; go_simp; with_reducible rfl); rotate_left; (simp only [Act.put, List.setIfInBounds_toArray, List.set_cons_zero, List.set_cons_succ, i64_w, i32_w]; rfl)
  refine take_ (i := 6) (N := some 133) (v := ?_) (a' := ?_) #[true, true, true, false, true, true, true, false, false, false] rfl rfl (take_ofW HT_.out HW_.out (by kernel_rfl)) (fun _ _ _ h => h) (Or.inl ⟨by rfl, ?_⟩) hHeld ?_ ?_
  rotate_left; (rintro w' ⟨s0, s1, s2, s3, s4⟩; go_simp; with_reducible rfl); rotate_left; (simp only [Act.put, List.setIfInBounds_toArray, List.set_cons_zero, List.set_cons_succ, i64_w, i32_w]; rfl)
  refine one_ (i := 3) (N := some 130) #[true, true, true, true, true, true, true, false, false, false] rfl rfl (one_of HT_.out (by kernel_rfl)) (by decide) (fun K hK => ?_)
  refine goes_ Try.func17 (by kernel_rfl) rfl #[.pointer p, .int .i64 d3] (by rfl) rfl rfl (by (try simp only [List.map_toArray, List.map_cons, List.map_nil]); first | done | rfl) ?_
  refine (HN.out _ HJ.out).mono ?_
  rintro e w2 ⟨rfl, hj, hk⟩
  have HJ2 := Aside0.mk hj
  have HX2 := Aside0.mk ((hk.2 _ (.inr hBX)).trans HX.out)
  have HKP2 := Aside0.mk (HKP.out.trans (hk.mono (fun k h => .inl h)))
  clear HJ HX HKP hj hk
  have HJ := HJ2
  have HX := HX2
  have HKP := HKP2
  clear HJ2 HX2 HKP2
  refine ⟨_, rfl, ?_⟩
  refine hK.out _ _ ⟨(cells_at HX.out (j := 0) rfl).1, (cells_at HX.out (j := 1) rfl).1, (cells_at HX.out (j := 2) rfl).1, (cells_at HX.out (j := 3) rfl).1, (cells_at HX.out (j := 4) rfl).1⟩ (fun hHeld => ?_)
  clear hK K
  refine norm_ (a' := ?_) ?_ ?_
  rotate_left; (show Act.put _ (some 130) _ = _; simp only [Act.put, List.setIfInBounds_toArray, List.set_cons_zero, List.set_cons_succ, i64_w, i32_w]; rfl)
  refine one_ (i := 7) (N := some 134) #[true, true, true, true, true, true, true, true, false, false] rfl rfl (one_of HT_.out (by kernel_rfl)) (by decide) (fun K hK => ?_)
  refine goes_ Try.func40 (by kernel_rfl) rfl #[.pointer (some ⟨g, 0, none⟩), .int .i64 d3] (by rfl) rfl rfl (by (try simp only [List.map_toArray, List.map_cons, List.map_nil]); first | done | rfl) ?_
  refine (HM.out _ _ HJ.out).mono ?_
  rintro e w2 ⟨rfl, hj, hk⟩
  have HJ2 := Aside0.mk hj
  have HX2 := Aside0.mk ((hk.2 _ (.inr hBX)).trans HX.out)
  have HKP2 := Aside0.mk (HKP.out.trans (hk.mono (fun k h => .inl h)))
  clear HJ HX HKP hj hk
  have HJ := HJ2
  have HX := HX2
  have HKP := HKP2
  clear HJ2 HX2 HKP2
  refine ⟨_, rfl, ?_⟩
  refine hK.out _ _ ⟨(cells_at HX.out (j := 0) rfl).1, (cells_at HX.out (j := 1) rfl).1, (cells_at HX.out (j := 2) rfl).1, (cells_at HX.out (j := 3) rfl).1, (cells_at HX.out (j := 4) rfl).1⟩ (fun hHeld => ?_)
  clear hK K
  refine norm_ (a' := ?_) ?_ ?_
  rotate_left; (show Act.put _ (some 134) _ = _; simp only [Act.put, List.setIfInBounds_toArray, List.set_cons_zero, List.set_cons_succ, i64_w, i32_w]; rfl)
  refine pure_ (i := 8) (N := some 135) (v := ?_) (a' := ?_) #[true, true, true, true, true, true, true, true, true, false] rfl rfl (any_of HT_.out (by kernel_rfl)) (fun _ _ _ h => h) (Or.inl ⟨by rfl, ?_⟩) ?_ ?_
  rotate_left; (intro w'; go_simp; with_reducible rfl); rotate_left; (simp only [Act.put, List.setIfInBounds_toArray, List.set_cons_zero, List.set_cons_succ, i64_w, i32_w]; rfl)
  refine pure_ (i := 9) (N := some 6) (v := ?_) (a' := ?_) #[true, true, true, true, true, true, true, true, true, true] rfl rfl (any_of HT_.out (by kernel_rfl)) (fun _ _ _ h => h) (Or.inl ⟨by rfl, ?_⟩) ?_ ?_
  rotate_left; (intro w'; go_simp; with_reducible rfl); rotate_left; (simp only [Act.put, List.setIfInBounds_toArray, List.set_cons_zero, List.set_cons_succ, i64_w, i32_w]; rfl)
  refine done_ (done_of HT_.out (by kernel_rfl)) ?_
  clear hHeld
  go_wp2
  go_ret
  exact ⟨rfl, HJ.out.weak (fun k hk => .inl hk) (fun k hk => hk.elim), HKP.out⟩

set_option maxHeartbeats 8000000 in
set_option maxRecDepth 100000 in
theorem act4_c {w W : World} {p : Option Addr} {n : NetS} {g : Nat} {m : RefS} {fp0 fr0 Q okx : Nat → Prop} {K : Nat} (h : J w W p n g m fp0 fr0 Q (fun _ => False)) (hR : Rel n m K) (hK : K < 9000) (d1 d2 d3 : Int) (A4 : Option Addr) (c4 : Nat) (x4 : List Int) (hF : Kd.F (Kd.int .u8) W okx A4 x4.length x4) (hok : ∀ k, okx k → Q k) (hc4 : x4.length ≤ c4) :
    Calls Try.prog 22 #[.pointer p, .pointer (some ⟨g, 0, none⟩), .agg #[.int .i64 4, .int .i64 d1, .int .i64 d2, .int .i64 d3, .slice A4 x4.length c4]] W fun e W' => e = .returned (.bool true) ∧ J w W' p (n.link d1 d2 true) g (rcutN m d1 d2) fp0 fr0 Q (fun _ => False) ∧ Keeps Q W W' := by
  have HQL := Aside0.mk (show ∀ k, Q k → k < W.heap.size by obtain ⟨_, _, _, _, _, _, _, _, h7, _⟩ := h; exact fun k hk => (h7 k hk).1)
  have HJ0 := Aside0.mk h
  have hbag := hR.bag
  obtain ⟨e1, he1, he2⟩ : ∃ e1, linkE n d1 d2 = e1 ∧ rlinkE m d1 d2 = e1 := ⟨_, rfl, by rw [← hR.linkE_]⟩
  have HN := Aside0.mk (fun (W' : World) {B : Nat → Prop} (hj : J w W' p n g m fp0 fr0 Q B) => hj.cut_ d1 d2)
  have HM := Aside0.mk (fun (W' : World) (n2 : NetS) {B : Nat → Prop} (hj : J w W' p n2 g m fp0 fr0 Q B) => hj.rcut_ (by have := hR.cl; omega) d1 d2)
  rw [he1] at HN
  rw [he2] at HM
  have HR := Aside0.mk hR
  clear h hR he1 he2 hF hok hbag
  go_enter Try.func22, Try.ntmps22
  go_wp2
  refine start_ (n := 14) (S := fun w' => w'.cell? ⟨W.heap.size, 0, none⟩ = some (.int .i64 4) ∧ w'.cell? ⟨W.heap.size, 1, none⟩ = some (.int .i64 d1) ∧ w'.cell? ⟨W.heap.size, 2, none⟩ = some (.int .i64 d2) ∧ w'.cell? ⟨W.heap.size, 3, none⟩ = some (.int .i64 d3) ∧ w'.cell? ⟨W.heap.size, 4, none⟩ = some (.slice A4 x4.length c4)) (ds := []) #[false, false, false, false, false, false, false, false, false, false, false, false, false, false] (by kernel_rfl) rfl rfl ⟨(cells_at (blk_drew (heap_alloc_new W (.cells #[.int .i64 4, .int .i64 d1, .int .i64 d2, .int .i64 d3, .slice A4 x4.length c4] 41))) (j := 0) rfl).1, (cells_at (blk_drew (heap_alloc_new W (.cells #[.int .i64 4, .int .i64 d1, .int .i64 d2, .int .i64 d3, .slice A4 x4.length c4] 41))) (j := 1) rfl).1, (cells_at (blk_drew (heap_alloc_new W (.cells #[.int .i64 4, .int .i64 d1, .int .i64 d2, .int .i64 d3, .slice A4 x4.length c4] 41))) (j := 2) rfl).1, (cells_at (blk_drew (heap_alloc_new W (.cells #[.int .i64 4, .int .i64 d1, .int .i64 d2, .int .i64 d3, .slice A4 x4.length c4] 41))) (j := 3) rfl).1, (cells_at (blk_drew (heap_alloc_new W (.cells #[.int .i64 4, .int .i64 d1, .int .i64 d2, .int .i64 d3, .slice A4 x4.length c4] 41))) (j := 4) rfl).1⟩ (fun hHeld => ?_)
  refine with_tabW act.tab28 act.bits28 (fun HT_ HW_ => ?_)
  have HJ := Aside0.mk (HJ0.out.alloc (.cells #[.int .i64 4, .int .i64 d1, .int .i64 d2, .int .i64 d3, .slice A4 x4.length c4] 41)).drew
  have HX := Aside0.mk (blk_drew (heap_alloc_new W (.cells #[.int .i64 4, .int .i64 d1, .int .i64 d2, .int .i64 d3, .slice A4 x4.length c4] 41)))
  have HKP := Aside0.mk (show Keeps Q W (W.alloc (.cells #[.int .i64 4, .int .i64 d1, .int .i64 d2, .int .i64 d3, .slice A4 x4.length c4] 41)).drew from ⟨by simp, fun k hk => Below.heap_alloc W _ k (HQL.out k hk)⟩)
  have hBX : (fun k => (fun _ : Nat => False) k ∨ k = W.heap.size) W.heap.size := .inr rfl
  clear HJ0
  obtain ⟨BB, hBB⟩ : ∃ BB : Nat → Prop, BB = fun k => (fun _ : Nat => False) k ∨ k = W.heap.size := ⟨_, rfl⟩
  rw [← hBB] at HJ hBX
  clear hBB
  refine pure_ (i := 0) (N := some 138) (v := ?_) (a' := ?_) #[true, false, false, false, false, false, false, false, false, false, false, false, false, false] rfl rfl (any_of HT_.out (by kernel_rfl)) (fun _ _ _ h => h) (Or.inl ⟨by rfl, ?_⟩) ?_ ?_
  rotate_left; (intro w'; go_simp; with_reducible rfl); rotate_left; (simp only [Act.put, List.setIfInBounds_toArray, List.set_cons_zero, List.set_cons_succ, i64_w, i32_w]; rfl)
  refine pure_ (i := 1) (N := some 139) (v := ?_) (a' := ?_) #[true, true, false, false, false, false, false, false, false, false, false, false, false, false] rfl rfl (any_of HT_.out (by kernel_rfl)) (fun _ _ _ h => h) (Or.inl ⟨by rfl, ?_⟩) ?_ ?_
  rotate_left; (intro w'; go_simp; with_reducible rfl); rotate_left; (simp only [Act.put, List.setIfInBounds_toArray, List.set_cons_zero, List.set_cons_succ, i64_w, i32_w]; rfl)
  refine pure_ (i := 3) (N := some 141) (v := ?_) (a' := ?_) #[true, true, false, true, false, false, false, false, false, false, false, false, false, false] rfl rfl (any_of HT_.out (by kernel_rfl)) (fun _ _ _ h => h) (Or.inl ⟨by rfl, ?_⟩) ?_ ?_
  rotate_left; (intro w'; go_simp; with_reducible rfl); rotate_left; (simp only [Act.put, List.setIfInBounds_toArray, List.set_cons_zero, List.set_cons_succ, i64_w, i32_w]; rfl)
  refine pure_ (i := 6) (N := some 144) (v := ?_) (a' := ?_) #[true, true, false, true, false, false, true, false, false, false, false, false, false, false] rfl rfl (any_of HT_.out (by kernel_rfl)) (fun _ _ _ h => h) (Or.inl ⟨by rfl, ?_⟩) ?_ ?_
  rotate_left; (intro w'; go_simp; with_reducible rfl); rotate_left; (simp only [Act.put, List.setIfInBounds_toArray, List.set_cons_zero, List.set_cons_succ, i64_w, i32_w]; rfl)
  refine pure_ (i := 7) (N := some 145) (v := ?_) (a' := ?_) #[true, true, false, true, false, false, true, true, false, false, false, false, false, false] rfl rfl (any_of HT_.out (by kernel_rfl)) (fun _ _ _ h => h) (Or.inl ⟨by rfl, ?_⟩) ?_ ?_
  rotate_left; (intro w'; go_simp; with_reducible rfl); rotate_left; (simp only [Act.put, List.setIfInBounds_toArray, List.set_cons_zero, List.set_cons_succ, i64_w, i32_w]; rfl)
  refine pure_ (i := 9) (N := some 147) (v := ?_) (a' := ?_) #[true, true, false, true, false, false, true, true, false, true, false, false, false, false] rfl rfl (any_of HT_.out (by kernel_rfl)) (fun _ _ _ h => h) (Or.inl ⟨by rfl, ?_⟩) ?_ ?_
  rotate_left; (intro w'; go_simp; with_reducible rfl); rotate_left; (simp only [Act.put, List.setIfInBounds_toArray, List.set_cons_zero, List.set_cons_succ, i64_w, i32_w]; rfl)
  refine take_ (i := 2) (N := some 140) (v := ?_) (a' := ?_) #[true, true, true, true, false, false, true, true, false, true, false, false, false, false] rfl rfl (take_ofW HT_.out HW_.out (by kernel_rfl)) (fun _ _ _ h => h) (Or.inl ⟨by rfl, ?_⟩) hHeld ?_ ?_
  rotate_left; (rintro w' ⟨s0, s1, s2, s3, s4⟩; go_simp; with_reducible rfl); rotate_left; (simp only [Act.put, List.setIfInBounds_toArray, List.set_cons_zero, List.set_cons_succ, i64_w, i32_w]; rfl)
  refine take_ (i := 4) (N := some 142) (v := ?_) (a' := ?_) #[true, true, true, true, true, false, true, true, false, true, false, false, false, false] rfl rfl (take_ofW HT_.out HW_.out (by kernel_rfl)) (fun _ _ _ h => h) (Or.inl ⟨by rfl, ?_⟩) hHeld ?_ ?_
  rotate_left; (rintro w' ⟨s0, s1, s2, s3, s4⟩; go_simp; with_reducible rfl); rotate_left; (simp only [Act.put, List.setIfInBounds_toArray, List.set_cons_zero, List.set_cons_succ, i64_w, i32_w]; rfl)
  refine take_ (i := 8) (N := some 146) (v := ?_) (a' := ?_) #[true, true, true, true, true, false, true, true, true, true, false, false, false, false] rfl rfl (take_ofW HT_.out HW_.out (by kernel_rfl)) (fun _ _ _ h => h) (Or.inl ⟨by rfl, ?_⟩) hHeld ?_ ?_
  rotate_left; (rintro w' ⟨s0, s1, s2, s3, s4⟩; go_simp; with_reducible rfl); rotate_left; (simp only [Act.put, List.setIfInBounds_toArray, List.set_cons_zero, List.set_cons_succ, i64_w, i32_w]; rfl)
  refine take_ (i := 10) (N := some 148) (v := ?_) (a' := ?_) #[true, true, true, true, true, false, true, true, true, true, true, false, false, false] rfl rfl (take_ofW HT_.out HW_.out (by kernel_rfl)) (fun _ _ _ h => h) (Or.inl ⟨by rfl, ?_⟩) hHeld ?_ ?_
  rotate_left; (rintro w' ⟨s0, s1, s2, s3, s4⟩; go_simp; with_reducible rfl); rotate_left; (simp only [Act.put, List.setIfInBounds_toArray, List.set_cons_zero, List.set_cons_succ, i64_w, i32_w]; rfl)
  refine one_ (i := 5) (N := some 143) #[true, true, true, true, true, true, true, true, true, true, true, false, false, false] rfl rfl (one_of HT_.out (by kernel_rfl)) (by decide) (fun K hK => ?_)
  refine goes_ Try.func18 (by kernel_rfl) rfl #[.pointer p, .int .i64 d1, .int .i64 d2] (by rfl) rfl rfl (by (try simp only [List.map_toArray, List.map_cons, List.map_nil]); first | done | rfl) ?_
  refine (HN.out _ HJ.out).mono ?_
  rintro e w2 ⟨rfl, hj, hk⟩
  have HJ2 := Aside0.mk hj
  have HX2 := Aside0.mk ((hk.2 _ (.inr hBX)).trans HX.out)
  have HKP2 := Aside0.mk (HKP.out.trans (hk.mono (fun k h => .inl h)))
  clear HJ HX HKP hj hk
  have HJ := HJ2
  have HX := HX2
  have HKP := HKP2
  clear HJ2 HX2 HKP2
  refine ⟨_, rfl, ?_⟩
  refine hK.out _ _ ⟨(cells_at HX.out (j := 0) rfl).1, (cells_at HX.out (j := 1) rfl).1, (cells_at HX.out (j := 2) rfl).1, (cells_at HX.out (j := 3) rfl).1, (cells_at HX.out (j := 4) rfl).1⟩ (fun hHeld => ?_)
  clear hK K
  refine norm_ (a' := ?_) ?_ ?_
  rotate_left; (show Act.put _ (some 143) _ = _; simp only [Act.put, List.setIfInBounds_toArray, List.set_cons_zero, List.set_cons_succ, i64_w, i32_w]; rfl)
  refine one_ (i := 11) (N := some 149) #[true, true, true, true, true, true, true, true, true, true, true, true, false, false] rfl rfl (one_of HT_.out (by kernel_rfl)) (by decide) (fun K hK => ?_)
  refine goes_ Try.func41 (by kernel_rfl) rfl #[.pointer (some ⟨g, 0, none⟩), .int .i64 d1, .int .i64 d2] (by rfl) rfl rfl (by (try simp only [List.map_toArray, List.map_cons, List.map_nil]); first | done | rfl) ?_
  refine (HM.out _ _ HJ.out).mono ?_
  rintro e w2 ⟨rfl, hj, hk⟩
  have HJ2 := Aside0.mk hj
  have HX2 := Aside0.mk ((hk.2 _ (.inr hBX)).trans HX.out)
  have HKP2 := Aside0.mk (HKP.out.trans (hk.mono (fun k h => .inl h)))
  clear HJ HX HKP hj hk
  have HJ := HJ2
  have HX := HX2
  have HKP := HKP2
  clear HJ2 HX2 HKP2
  refine ⟨_, rfl, ?_⟩
  refine hK.out _ _ ⟨(cells_at HX.out (j := 0) rfl).1, (cells_at HX.out (j := 1) rfl).1, (cells_at HX.out (j := 2) rfl).1, (cells_at HX.out (j := 3) rfl).1, (cells_at HX.out (j := 4) rfl).1⟩ (fun hHeld => ?_)
  clear hK K
  refine norm_ (a' := ?_) ?_ ?_
  rotate_left; (show Act.put _ (some 149) _ = _; simp only [Act.put, List.setIfInBounds_toArray, List.set_cons_zero, List.set_cons_succ, i64_w, i32_w]; rfl)
  refine pure_ (i := 12) (N := some 150) (v := ?_) (a' := ?_) #[true, true, true, true, true, true, true, true, true, true, true, true, true, false] rfl rfl (any_of HT_.out (by kernel_rfl)) (fun _ _ _ h => h) (Or.inl ⟨by rfl, ?_⟩) ?_ ?_
  rotate_left; (intro w'; go_simp; with_reducible rfl); rotate_left; (simp only [Act.put, List.setIfInBounds_toArray, List.set_cons_zero, List.set_cons_succ, i64_w, i32_w]; rfl)
  refine pure_ (i := 13) (N := some 6) (v := ?_) (a' := ?_) #[true, true, true, true, true, true, true, true, true, true, true, true, true, true] rfl rfl (any_of HT_.out (by kernel_rfl)) (fun _ _ _ h => h) (Or.inl ⟨by rfl, ?_⟩) ?_ ?_
  rotate_left; (intro w'; go_simp; with_reducible rfl); rotate_left; (simp only [Act.put, List.setIfInBounds_toArray, List.set_cons_zero, List.set_cons_succ, i64_w, i32_w]; rfl)
  refine done_ (done_of HT_.out (by kernel_rfl)) ?_
  clear hHeld
  go_wp2
  go_ret
  exact ⟨rfl, HJ.out.weak (fun k hk => .inl hk) (fun k hk => hk.elim), HKP.out⟩

set_option maxHeartbeats 8000000 in
set_option maxRecDepth 100000 in
theorem act5_c {w W : World} {p : Option Addr} {n : NetS} {g : Nat} {m : RefS} {fp0 fr0 Q okx : Nat → Prop} {K : Nat} (h : J w W p n g m fp0 fr0 Q (fun _ => False)) (hR : Rel n m K) (hK : K < 9000) (d1 d2 d3 : Int) (A4 : Option Addr) (c4 : Nat) (x4 : List Int) (hF : Kd.F (Kd.int .u8) W okx A4 x4.length x4) (hok : ∀ k, okx k → Q k) (hc4 : x4.length ≤ c4) :
    Calls Try.prog 22 #[.pointer p, .pointer (some ⟨g, 0, none⟩), .agg #[.int .i64 5, .int .i64 d1, .int .i64 d2, .int .i64 d3, .slice A4 x4.length c4]] W fun e W' => e = .returned (.bool true) ∧ J w W' p (n.link d1 d2 false) g (rhealN m d1 d2) fp0 fr0 Q (fun _ => False) ∧ Keeps Q W W' := by
  have HQL := Aside0.mk (show ∀ k, Q k → k < W.heap.size by obtain ⟨_, _, _, _, _, _, _, _, h7, _⟩ := h; exact fun k hk => (h7 k hk).1)
  have HJ0 := Aside0.mk h
  have hbag := hR.bag
  obtain ⟨e1, he1, he2⟩ : ∃ e1, linkE n d1 d2 = e1 ∧ rlinkE m d1 d2 = e1 := ⟨_, rfl, by rw [← hR.linkE_]⟩
  have HN := Aside0.mk (fun (W' : World) {B : Nat → Prop} (hj : J w W' p n g m fp0 fr0 Q B) => hj.heal_ d1 d2)
  have HM := Aside0.mk (fun (W' : World) (n2 : NetS) {B : Nat → Prop} (hj : J w W' p n2 g m fp0 fr0 Q B) => hj.rheal_ d1 d2)
  rw [he1] at HN
  rw [he2] at HM
  have HR := Aside0.mk hR
  clear h hR he1 he2 hF hok hbag
  go_enter Try.func22, Try.ntmps22
  go_wp2
  refine start_ (n := 14) (S := fun w' => w'.cell? ⟨W.heap.size, 0, none⟩ = some (.int .i64 5) ∧ w'.cell? ⟨W.heap.size, 1, none⟩ = some (.int .i64 d1) ∧ w'.cell? ⟨W.heap.size, 2, none⟩ = some (.int .i64 d2) ∧ w'.cell? ⟨W.heap.size, 3, none⟩ = some (.int .i64 d3) ∧ w'.cell? ⟨W.heap.size, 4, none⟩ = some (.slice A4 x4.length c4)) (ds := []) #[false, false, false, false, false, false, false, false, false, false, false, false, false, false] (by kernel_rfl) rfl rfl ⟨(cells_at (blk_drew (heap_alloc_new W (.cells #[.int .i64 5, .int .i64 d1, .int .i64 d2, .int .i64 d3, .slice A4 x4.length c4] 41))) (j := 0) rfl).1, (cells_at (blk_drew (heap_alloc_new W (.cells #[.int .i64 5, .int .i64 d1, .int .i64 d2, .int .i64 d3, .slice A4 x4.length c4] 41))) (j := 1) rfl).1, (cells_at (blk_drew (heap_alloc_new W (.cells #[.int .i64 5, .int .i64 d1, .int .i64 d2, .int .i64 d3, .slice A4 x4.length c4] 41))) (j := 2) rfl).1, (cells_at (blk_drew (heap_alloc_new W (.cells #[.int .i64 5, .int .i64 d1, .int .i64 d2, .int .i64 d3, .slice A4 x4.length c4] 41))) (j := 3) rfl).1, (cells_at (blk_drew (heap_alloc_new W (.cells #[.int .i64 5, .int .i64 d1, .int .i64 d2, .int .i64 d3, .slice A4 x4.length c4] 41))) (j := 4) rfl).1⟩ (fun hHeld => ?_)
  refine with_tabW act.tab30 act.bits30 (fun HT_ HW_ => ?_)
  have HJ := Aside0.mk (HJ0.out.alloc (.cells #[.int .i64 5, .int .i64 d1, .int .i64 d2, .int .i64 d3, .slice A4 x4.length c4] 41)).drew
  have HX := Aside0.mk (blk_drew (heap_alloc_new W (.cells #[.int .i64 5, .int .i64 d1, .int .i64 d2, .int .i64 d3, .slice A4 x4.length c4] 41)))
  have HKP := Aside0.mk (show Keeps Q W (W.alloc (.cells #[.int .i64 5, .int .i64 d1, .int .i64 d2, .int .i64 d3, .slice A4 x4.length c4] 41)).drew from ⟨by simp, fun k hk => Below.heap_alloc W _ k (HQL.out k hk)⟩)
  have hBX : (fun k => (fun _ : Nat => False) k ∨ k = W.heap.size) W.heap.size := .inr rfl
  clear HJ0
  obtain ⟨BB, hBB⟩ : ∃ BB : Nat → Prop, BB = fun k => (fun _ : Nat => False) k ∨ k = W.heap.size := ⟨_, rfl⟩
  rw [← hBB] at HJ hBX
  clear hBB
  refine pure_ (i := 0) (N := some 153) (v := ?_) (a' := ?_) #[true, false, false, false, false, false, false, false, false, false, false, false, false, false] rfl rfl (any_of HT_.out (by kernel_rfl)) (fun _ _ _ h => h) (Or.inl ⟨by rfl, ?_⟩) ?_ ?_
  rotate_left; (intro w'; go_simp; with_reducible rfl); rotate_left; (simp only [Act.put, List.setIfInBounds_toArray, List.set_cons_zero, List.set_cons_succ, i64_w, i32_w]; rfl)
  refine pure_ (i := 1) (N := some 154) (v := ?_) (a' := ?_) #[true, true, false, false, false, false, false, false, false, false, false, false, false, false] rfl rfl (any_of HT_.out (by kernel_rfl)) (fun _ _ _ h => h) (Or.inl ⟨by rfl, ?_⟩) ?_ ?_
  rotate_left; (intro w'; go_simp; with_reducible rfl); rotate_left; (simp only [Act.put, List.setIfInBounds_toArray, List.set_cons_zero, List.set_cons_succ, i64_w, i32_w]; rfl)
  refine pure_ (i := 3) (N := some 156) (v := ?_) (a' := ?_) #[true, true, false, true, false, false, false, false, false, false, false, false, false, false] rfl rfl (any_of HT_.out (by kernel_rfl)) (fun _ _ _ h => h) (Or.inl ⟨by rfl, ?_⟩) ?_ ?_
  rotate_left; (intro w'; go_simp; with_reducible rfl); rotate_left; (simp only [Act.put, List.setIfInBounds_toArray, List.set_cons_zero, List.set_cons_succ, i64_w, i32_w]; rfl)
  refine pure_ (i := 6) (N := some 159) (v := ?_) (a' := ?_) #[true, true, false, true, false, false, true, false, false, false, false, false, false, false] rfl rfl (any_of HT_.out (by kernel_rfl)) (fun _ _ _ h => h) (Or.inl ⟨by rfl, ?_⟩) ?_ ?_
  rotate_left; (intro w'; go_simp; with_reducible rfl); rotate_left; (simp only [Act.put, List.setIfInBounds_toArray, List.set_cons_zero, List.set_cons_succ, i64_w, i32_w]; rfl)
  refine pure_ (i := 7) (N := some 160) (v := ?_) (a' := ?_) #[true, true, false, true, false, false, true, true, false, false, false, false, false, false] rfl rfl (any_of HT_.out (by kernel_rfl)) (fun _ _ _ h => h) (Or.inl ⟨by rfl, ?_⟩) ?_ ?_
  rotate_left; (intro w'; go_simp; with_reducible rfl); rotate_left; (simp only [Act.put, List.setIfInBounds_toArray, List.set_cons_zero, List.set_cons_succ, i64_w, i32_w]; rfl)
  refine pure_ (i := 9) (N := some 162) (v := ?_) (a' := ?_) #[true, true, false, true, false, false, true, true, false, true, false, false, false, false] rfl rfl (any_of HT_.out (by kernel_rfl)) (fun _ _ _ h => h) (Or.inl ⟨by rfl, ?_⟩) ?_ ?_
  rotate_left; (intro w'; go_simp; with_reducible rfl); rotate_left; (simp only [Act.put, List.setIfInBounds_toArray, List.set_cons_zero, List.set_cons_succ, i64_w, i32_w]; rfl)
  refine take_ (i := 2) (N := some 155) (v := ?_) (a' := ?_) #[true, true, true, true, false, false, true, true, false, true, false, false, false, false] rfl rfl (take_ofW HT_.out HW_.out (by kernel_rfl)) (fun _ _ _ h => h) (Or.inl ⟨by rfl, ?_⟩) hHeld ?_ ?_
  rotate_left; (rintro w' ⟨s0, s1, s2, s3, s4⟩; go_simp; with_reducible rfl); rotate_left; (simp only [Act.put, List.setIfInBounds_toArray, List.set_cons_zero, List.set_cons_succ, i64_w, i32_w]; rfl)
  refine take_ (i := 4) (N := some 157) (v := ?_) (a' := ?_) #[true, true, true, true, true, false, true, true, false, true, false, false, false, false] rfl rfl (take_ofW HT_.out HW_.out (by kernel_rfl)) (fun _ _ _ h => h) (Or.inl ⟨by rfl, ?_⟩) hHeld ?_ ?_
  rotate_left; (rintro w' ⟨s0, s1, s2, s3, s4⟩; go_simp; with_reducible rfl); rotate_left; (simp only [Act.put, List.setIfInBounds_toArray, List.set_cons_zero, List.set_cons_succ, i64_w, i32_w]; rfl)
  refine take_ (i := 8) (N := some 161) (v := ?_) (a' := ?_) #[true, true, true, true, true, false, true, true, true, true, false, false, false, false] rfl rfl (take_ofW HT_.out HW_.out (by kernel_rfl)) (fun _ _ _ h => h) (Or.inl ⟨by rfl, ?_⟩) hHeld ?_ ?_
  rotate_left; (rintro w' ⟨s0, s1, s2, s3, s4⟩; go_simp; with_reducible rfl); rotate_left; (simp only [Act.put, List.setIfInBounds_toArray, List.set_cons_zero, List.set_cons_succ, i64_w, i32_w]; rfl)
  refine take_ (i := 10) (N := some 163) (v := ?_) (a' := ?_) #[true, true, true, true, true, false, true, true, true, true, true, false, false, false] rfl rfl (take_ofW HT_.out HW_.out (by kernel_rfl)) (fun _ _ _ h => h) (Or.inl ⟨by rfl, ?_⟩) hHeld ?_ ?_
  rotate_left; (rintro w' ⟨s0, s1, s2, s3, s4⟩; go_simp; with_reducible rfl); rotate_left; (simp only [Act.put, List.setIfInBounds_toArray, List.set_cons_zero, List.set_cons_succ, i64_w, i32_w]; rfl)
  refine one_ (i := 5) (N := some 158) #[true, true, true, true, true, true, true, true, true, true, true, false, false, false] rfl rfl (one_of HT_.out (by kernel_rfl)) (by decide) (fun K hK => ?_)
  refine goes_ Try.func19 (by kernel_rfl) rfl #[.pointer p, .int .i64 d1, .int .i64 d2] (by rfl) rfl rfl (by (try simp only [List.map_toArray, List.map_cons, List.map_nil]); first | done | rfl) ?_
  refine (HN.out _ HJ.out).mono ?_
  rintro e w2 ⟨rfl, hj, hk⟩
  have HJ2 := Aside0.mk hj
  have HX2 := Aside0.mk ((hk.2 _ (.inr hBX)).trans HX.out)
  have HKP2 := Aside0.mk (HKP.out.trans (hk.mono (fun k h => .inl h)))
  clear HJ HX HKP hj hk
  have HJ := HJ2
  have HX := HX2
  have HKP := HKP2
  clear HJ2 HX2 HKP2
  refine ⟨_, rfl, ?_⟩
  refine hK.out _ _ ⟨(cells_at HX.out (j := 0) rfl).1, (cells_at HX.out (j := 1) rfl).1, (cells_at HX.out (j := 2) rfl).1, (cells_at HX.out (j := 3) rfl).1, (cells_at HX.out (j := 4) rfl).1⟩ (fun hHeld => ?_)
  clear hK K
  refine norm_ (a' := ?_) ?_ ?_
  rotate_left; (show Act.put _ (some 158) _ = _; simp only [Act.put, List.setIfInBounds_toArray, List.set_cons_zero, List.set_cons_succ, i64_w, i32_w]; rfl)
  refine one_ (i := 11) (N := some 164) #[true, true, true, true, true, true, true, true, true, true, true, true, false, false] rfl rfl (one_of HT_.out (by kernel_rfl)) (by decide) (fun K hK => ?_)
  refine goes_ Try.func42 (by kernel_rfl) rfl #[.pointer (some ⟨g, 0, none⟩), .int .i64 d1, .int .i64 d2] (by rfl) rfl rfl (by (try simp only [List.map_toArray, List.map_cons, List.map_nil]); first | done | rfl) ?_
  refine (HM.out _ _ HJ.out).mono ?_
  rintro e w2 ⟨rfl, hj, hk⟩
  have HJ2 := Aside0.mk hj
  have HX2 := Aside0.mk ((hk.2 _ (.inr hBX)).trans HX.out)
  have HKP2 := Aside0.mk (HKP.out.trans (hk.mono (fun k h => .inl h)))
  clear HJ HX HKP hj hk
  have HJ := HJ2
  have HX := HX2
  have HKP := HKP2
  clear HJ2 HX2 HKP2
  refine ⟨_, rfl, ?_⟩
  refine hK.out _ _ ⟨(cells_at HX.out (j := 0) rfl).1, (cells_at HX.out (j := 1) rfl).1, (cells_at HX.out (j := 2) rfl).1, (cells_at HX.out (j := 3) rfl).1, (cells_at HX.out (j := 4) rfl).1⟩ (fun hHeld => ?_)
  clear hK K
  refine norm_ (a' := ?_) ?_ ?_
  rotate_left; (show Act.put _ (some 164) _ = _; simp only [Act.put, List.setIfInBounds_toArray, List.set_cons_zero, List.set_cons_succ, i64_w, i32_w]; rfl)
  refine pure_ (i := 12) (N := some 165) (v := ?_) (a' := ?_) #[true, true, true, true, true, true, true, true, true, true, true, true, true, false] rfl rfl (any_of HT_.out (by kernel_rfl)) (fun _ _ _ h => h) (Or.inl ⟨by rfl, ?_⟩) ?_ ?_
  rotate_left; (intro w'; go_simp; with_reducible rfl); rotate_left; (simp only [Act.put, List.setIfInBounds_toArray, List.set_cons_zero, List.set_cons_succ, i64_w, i32_w]; rfl)
  refine pure_ (i := 13) (N := some 6) (v := ?_) (a' := ?_) #[true, true, true, true, true, true, true, true, true, true, true, true, true, true] rfl rfl (any_of HT_.out (by kernel_rfl)) (fun _ _ _ h => h) (Or.inl ⟨by rfl, ?_⟩) ?_ ?_
  rotate_left; (intro w'; go_simp; with_reducible rfl); rotate_left; (simp only [Act.put, List.setIfInBounds_toArray, List.set_cons_zero, List.set_cons_succ, i64_w, i32_w]; rfl)
  refine done_ (done_of HT_.out (by kernel_rfl)) ?_
  clear hHeld
  go_wp2
  go_ret
  exact ⟨rfl, HJ.out.weak (fun k hk => .inl hk) (fun k hk => hk.elim), HKP.out⟩

theorem act_size {w W : World} {p : Option Addr} {n : NetS} {g : Nat} {m : RefS} {fp0 fr0 Q B : Nat → Prop} (h : J w W p n g m fp0 fr0 Q B) : ∀ k, Q k → k < W.heap.size := by
  obtain ⟨_, _, _, _, _, _, _, _, h7, _⟩ := h
  exact fun k hk => (h7 k hk).1

set_option maxHeartbeats 8000000 in
set_option maxRecDepth 100000 in
theorem act7_c {w W : World} {p : Option Addr} {n : NetS} {g : Nat} {m : RefS} {fp0 fr0 Q okx : Nat → Prop} {K : Nat} (h : J w W p n g m fp0 fr0 Q (fun _ => False)) (hR : Rel n m K) (hK : K < 9000) (d1 d2 d3 : Int) (A4 : Option Addr) (c4 : Nat) (x4 : List Int) (hF : Kd.F (Kd.int .u8) W okx A4 x4.length x4) (hok : ∀ k, okx k → Q k) (hc4 : x4.length ≤ c4) :
    Calls Try.prog 22 #[.pointer p, .pointer (some ⟨g, 0, none⟩), .agg #[.int .i64 7, .int .i64 d1, .int .i64 d2, .int .i64 d3, .slice A4 x4.length c4]] W fun e W' => e = .returned (.bool true) ∧ J w W' p (n) g (m) fp0 fr0 Q (fun _ => False) ∧ Keeps Q W W' := by
  have HQL := Aside0.mk (act_size h)
  have HJ := Aside0.mk (h.alloc (.cells #[.int .i64 7, .int .i64 d1, .int .i64 d2, .int .i64 d3, .slice A4 x4.length c4] 41))
  have HX := Aside0.mk (heap_alloc_new W (.cells #[.int .i64 7, .int .i64 d1, .int .i64 d2, .int .i64 d3, .slice A4 x4.length c4] 41))
  have HB := Aside0.mk (below_alloc (Below.refl W.heap.size W) (.cells #[.int .i64 7, .int .i64 d1, .int .i64 d2, .int .i64 d3, .slice A4 x4.length c4] 41))
  have HR := Aside0.mk hR
  have HBG := Aside0.mk (show m.Bag.length ≤ 1000000 from Nat.le_trans hR.bag (by decide))
  clear h hR hF hok
  go_enter Try.func22, Try.ntmps22
  go_wp2_with (first
    | (go_at_call 24; refine (HJ.out.find_ d1 d2).mono ?_; rintro e w2 ⟨rfl, hb⟩; have HJ2 := Aside0.mk (HJ.out.past hb); have HX2 := Aside0.mk (blk_below HX.out hb); have HB2 := Aside0.mk (below_then HB.out HB.out.size hb); clear HJ HX hb; obtain ⟨z0, _⟩ := cells_at HX2.out (j := 0) rfl; obtain ⟨z1, _⟩ := cells_at HX2.out (j := 1) rfl; obtain ⟨z2, _⟩ := cells_at HX2.out (j := 2) rfl)
    | (go_at_call 43; refine (HJ2.out.rfind_ HBG.out d1 d2).mono ?_; rintro e w3 ⟨r, rfl, hfi, hb⟩; have HJ3 := Aside0.mk (HJ2.out.past hb); have HB3 := Aside0.mk (below_then HB2.out HB2.out.size hb); clear hb; have hfd := HR.out.find_ d1 d2 hfi; have e1 : (findI n d1 d2 == oI r) = true := (by rw [hfd.1]; simp); have e2 : (findB n d1 d2 == r.isSome) = true := (by rw [hfd.2]; simp); clear hfi hfd))
  go_ret
  exact ⟨rfl, HJ3.out.weak (fun k hk => .inl hk) (fun k hk => hk.elim), HB3.out.size, fun k hk => HB3.out.block k (HQL.out k hk)⟩

set_option maxHeartbeats 8000000 in
set_option maxRecDepth 100000 in
theorem actE_c {w W : World} {p : Option Addr} {n : NetS} {g : Nat} {m : RefS} {fp0 fr0 Q okx : Nat → Prop} {K : Nat} (h : J w W p n g m fp0 fr0 Q (fun _ => False)) (hR : Rel n m K) (hK : K < 9000) (d0 : Int) (d1 d2 d3 : Int) (A4 : Option Addr) (c4 : Nat) (x4 : List Int) (hF : Kd.F (Kd.int .u8) W okx A4 x4.length x4) (hok : ∀ k, okx k → Q k) (hc4 : x4.length ≤ c4) (h0 : ¬ d0 = 0) (h1 : ¬ d0 = 1) (h2 : ¬ d0 = 2) (h3 : ¬ d0 = 3) (h4 : ¬ d0 = 4) (h5 : ¬ d0 = 5) (h7 : ¬ d0 = 7) (h8 : ¬ d0 = 8) :
    Calls Try.prog 22 #[.pointer p, .pointer (some ⟨g, 0, none⟩), .agg #[.int .i64 d0, .int .i64 d1, .int .i64 d2, .int .i64 d3, .slice A4 x4.length c4]] W fun e W' => e = .returned (.bool true) ∧ J w W' p (n) g (m) fp0 fr0 Q (fun _ => False) ∧ Keeps Q W W' := by
  have HQL := Aside0.mk (act_size h)
  have HJ := Aside0.mk (h.alloc (.cells #[.int .i64 d0, .int .i64 d1, .int .i64 d2, .int .i64 d3, .slice A4 x4.length c4] 41))
  have HB := Aside0.mk (below_alloc (Below.refl W.heap.size W) (.cells #[.int .i64 d0, .int .i64 d1, .int .i64 d2, .int .i64 d3, .slice A4 x4.length c4] 41))
  have f0 : (d0 == 0) = false := by simpa using h0
  have f1 : (d0 == 1) = false := by simpa using h1
  have f2 : (d0 == 2) = false := by simpa using h2
  have f3 : (d0 == 3) = false := by simpa using h3
  have f4 : (d0 == 4) = false := by simpa using h4
  have f5 : (d0 == 5) = false := by simpa using h5
  have f7 : (d0 == 7) = false := by simpa using h7
  have f8 : (d0 == 8) = false := by simpa using h8
  clear h hR hF hok h0 h1 h2 h3 h4 h5 h7 h8
  go_enter Try.func22, Try.ntmps22
  go_wp2
  go_ret
  exact ⟨rfl, HJ.out.weak (fun k hk => .inl hk) (fun k hk => hk.elim), HB.out.size, fun k hk => HB.out.block k (HQL.out k hk)⟩
/-! ### bytes of the call's own, written over -/
def BytesOf (W : World) (A : Option Addr) (len : Nat) (B : Nat → Prop) (ba : Nat) : Prop := 0 < len → ∃ gb cs, A = some ⟨gb, 0, none⟩ ∧ B gb ∧ gb ≠ ba ∧ W.heap[gb]? = some (.cells cs 5 (0, 0)) ∧ ∀ j, j < len → ∃ v, cs[j]? = some (.int .u8 v)
theorem BytesOf.set {W : World} {gb ba len : Nat} {B : Nat → Prop} (h : BytesOf W (some ⟨gb, 0, none⟩) len B ba) (i : Nat) (u : Int) : BytesOf (W.setCell ⟨gb, i, none⟩ (.int .u8 u)) (some ⟨gb, 0, none⟩) len B ba := fun hp => by
  obtain ⟨g2, cs, e, h1, h2, h3, h4⟩ := h hp
  injection e with e
  injection e with e
  subst e
  refine ⟨gb, _, rfl, h1, h2, blk_set h3 i _, fun j hj => ?_⟩
  obtain ⟨v, hv⟩ := h4 j hj
  by_cases hji : i = j
  · subst hji
    exact ⟨u, by rw [Array.getElem?_setIfInBounds_self_of_lt (Array.getElem?_eq_some_iff.1 hv).1]⟩
  · exact ⟨v, by rw [Array.getElem?_setIfInBounds_ne hji]; exact hv⟩
theorem BytesOf.past {W W' : World} {A : Option Addr} {len ba : Nat} {B : Nat → Prop} (h : BytesOf W A len B ba) (hk : ∀ k, B k → W'.heap[k]? = W.heap[k]?) : BytesOf W' A len B ba := fun hp => by
  obtain ⟨gb, cs, e, h1, h2, h3, h4⟩ := h hp
  exact ⟨gb, cs, e, h1, h2, (hk gb h1).trans h3, h4⟩
theorem BytesOf.mono {W : World} {A : Option Addr} {len ba : Nat} {B B' : Nat → Prop} (h : BytesOf W A len B ba) (hk : ∀ k, B k → B' k) : BytesOf W A len B' ba := fun hp => by
  obtain ⟨gb, cs, e, h1, h2, h3, h4⟩ := h hp
  exact ⟨gb, cs, e, hk _ h1, h2, h3, h4⟩
theorem R_bytes {W : World} {base : Nat} {q : Nat → Prop} {A : Option Addr} {n c : Nat} {l : List Int} (h : Kd.R (Kd.int .u8) 5 W base q (.slice A n c) l) (ba : Nat) (hne : ∀ k, q k → k ≠ ba) : BytesOf W A l.length q ba := fun hp => by
  obtain ⟨gb, cap, e, hb, hlt, cs, hcs⟩ := Kd.R_form h hp
  injection e with e1 e2 e3
  subst e1
  have hq := h.1 gb rfl
  refine ⟨gb, cs, rfl, hq, hne _ hq, hcs, fun j hj => ?_⟩
  have hn := (Kd.R_reads' h).1
  obtain ⟨cc, hcl, hM, hcc, _⟩ := Kd.R_elem h 0 (j : Int) (by omega) (by omega)
  simp only [Int.toNat_natCast] at hM hcc
  have e1 : cc = [.int .u8 (l.getD j 0)] := hM
  have h3 := hcc 0 _ (by rw [e1]; rfl)
  rw [show j * (Kd.int .u8).sz + 0 = j by show j * 1 + 0 = j; omega] at h3
  exact ⟨_, (blk_cell hcs j).symm.trans h3⟩
theorem N_bytes {W : World} {base : Nat} {q : Nat → Prop} {A : Option Addr} {n c : Nat} {l : List Int} (h : Kd.N (Kd.int .u8) 5 W base q (.slice A n c) l) (ba : Nat) (hne : ba < base) : BytesOf W A l.length (fun k => base ≤ k ∧ k < W.heap.size) ba := fun hp => by
  obtain ⟨gb, cap, e, hb, hlt, cs, hcs⟩ := Kd.N_form h hp
  injection e with e1 e2 e3
  subst e1
  refine ⟨gb, cs, rfl, ⟨hb, hlt⟩, by omega, hcs, fun j hj => ?_⟩
  have hn := (Kd.N_reads' h).1
  obtain ⟨cc, hcl, hM, hcc, _⟩ := Kd.N_elem h 0 (j : Int) (by omega) (by omega)
  simp only [Int.toNat_natCast] at hM hcc
  have e1 : cc = [.int .u8 (l.getD j 0)] := Kd.FK_now hM
  have h3 := hcc 0 _ (by rw [e1]; rfl)
  rw [show j * (Kd.int .u8).sz + 0 = j by show j * 1 + 0 = j; omega] at h3
  exact ⟨_, (blk_cell hcs j).symm.trans h3⟩
end Go.Proofs.Ytnaefndclalepaa.Net
