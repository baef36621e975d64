/- A client is made, or refused. -/
import Derived.Test.YtajnladoomkgaaaNew
namespace Go.Proofs.Ytajnladoomkgaaa.Cli
set_option linter.unusedVariables false
set_option linter.unusedSimpArgs false
open RowOf Go.RowKit Go.Proofs.YtajnladoomkgaaaW.PrintWords Go.Proofs.YtajnladoomkgaaaW.PrintLast Go.Proofs.YtajnladoomkgaaaW.PrintMore Go.Proofs.Ytajnladoomkgaaa.XC
attribute [local go_sem] max2_int min2_int max_two min_two

theorem count_c (n : Int) (w : World) : Calls Try.prog 20 #[.int .u64 n] w fun e w' => e = .returned (.bool (countB n)) ∧ w = w' := by
  by_cases h : 1 ≤ n
  · have HV := Aside0.mk (show countB n = decide (n ≤ 4611686018427387903) by simp [countB, client_count.f, h])
    have hd : decide (1 ≤ n) = true := by simpa using h
    go_enter Try.func20, Try.ntmps20
    go_wp2
    go_ret
    exact ⟨by rw [HV.out]; rfl, rfl⟩
  · have HV := Aside0.mk (show countB n = false by simp [countB, client_count.f, h])
    have hd : decide (1 ≤ n) = false := by simpa using h
    go_enter Try.func20, Try.ntmps20
    go_wp2
    go_ret
    exact ⟨by rw [HV.out]; rfl, rfl⟩
def newOk (id inc : Int) (l : List Int) : Bool := decide (1 ≤ id) && decide (id ≤ 15) && countB inc && decide (1 ≤ l.length) && decide (l.length ≤ 3) && !l.any oddB && decide ((Lib.compact (srt l)).length = l.length)
def newCli (id inc : Int) (l : List Int) : CliS := ⟨id, inc, 0, l, 0, z27, 0, 0, 0⟩
def NewPost (id inc : Int) (l : List Int) (w : World) (e : Ending) (w' : World) : Prop :=
  (newOk id inc l = true → ∃ A1 k1, e = .returned (.tuple #[.agg #[.int .i64 (newCli id inc l).Id, .int .u64 (newCli id inc l).Inc, .int .u64 (newCli id inc l).N, .slice A1 (newCli id inc l).Br.length k1, .int .i64 (newCli id inc l).Busy, .int .i64 (newCli id inc l).Call.f0, .int .u64 (newCli id inc l).Call.f1, .int .u64 (newCli id inc l).Call.f2, .int .i64 (newCli id inc l).Call.f3, .int .i64 (newCli id inc l).Call.f4, .int .i64 (newCli id inc l).Call.f5, .int .u64 (newCli id inc l).Call.f6, .int .u64 (newCli id inc l).Call.f7, .slice none (newCli id inc l).Call.f8.length 0, .int .i64 (newCli id inc l).At, .int .u64 (newCli id inc l).Born, .int .u64 (newCli id inc l).Since], .int .i64 0]) ∧ CliNew w' w.heap.size (newCli id inc l) A1 k1 none 0) ∧
  (newOk id inc l = false → e = .returned (.tuple #[.agg rZC_, .int .i64 1])) ∧ Below w.heap.size w w'
theorem newPost_no (id inc : Int) (l : List Int) (w : World) (hno : newOk id inc l = false) (w' : World) (hb : Below w.heap.size w w') : NewPost id inc l w (.returned (.tuple #[.agg rZC_, .int .i64 1])) w' := ⟨(fun h => by rw [hno] at h; cases h), fun _ => rfl, hb⟩
set_option maxHeartbeats 8000000 in
set_option maxRecDepth 100000 in
theorem new_id1 (id inc : Int) (A : Option Addr) (k : Nat) (l : List Int) (w : World) (hC : Kd.C (Kd.int .i64) w A l.length l) (hk : l.length ≤ k) (hl : l.length * 8 ≤ 140737488351232) (h1 : id < 1) :
    Calls Try.prog 6 #[.int .i64 id, .int .u64 inc, .slice A l.length k] w (NewPost id inc l w) := by
  have hno : newOk id inc l = false := by simp [newOk]; omega
  have HPOST := Aside0.mk (newPost_no id inc l w hno)
  clear hno
  have f1 : decide (id < 1) = true := by simpa using h1
  clear h1
  have HL := Aside0.mk hl
  have HK := Aside0.mk hk
  have HB0 := Aside0.mk (below_alloc (Below.refl w.heap.size w) (.cells rZC_ 29))
  have BZ0 := Aside0.mk (heap_alloc_new w (.cells rZC_ 29))
  have HC := Aside0.mk (Kd.C_below hC HB0.out)
  have HS0 := Aside0.mk (show (w.alloc (.cells rZC_ 29)).heap.size = w.heap.size + 1 by simp)
  clear hC hl hk
  go_enter Try.func6, Try.ntmps6
  go_wp2_with fail
  generalize World.alloc _ _ = W1 at HB0 BZ0 HC HS0 ⊢
  have HCF := Aside0.mk (containsFunc_c A k l W1 HC.out HL.out)
  have HBX := Aside0.mk (below_alloc (Below.refl W1.heap.size W1) (.cells #[.slice A l.length k] 23))
  have HSO := Aside0.mk (sorted_c W1.heap.size W1.heap.size (.slice A l.length k) l HL.out (W1.alloc (.cells #[.slice A l.length k] 23)) (by simp) (by simp) (cells_at (heap_alloc_new W1 (.cells #[.slice A l.length k] 23)) rfl).1 (ints_of HC.out (Kd.C_below HC.out HBX.out)))
  go_wp2_with (first
    | (go_at_call 16; refine HCF.out.mono ?_; rintro e w' ⟨rfl, rfl⟩)
    | (go_at_call 19; refine (values_c A l.length k W1).mono ?_; rintro e w' ⟨rfl, rfl⟩)
    | (go_at_call 18; refine HSO.out.mono ?_; rintro e W2 ⟨v, rfl, hrow, hB⟩; have HROW := Aside0.mk hrow; have HB2 := Aside0.mk (below_then HBX.out HBX.out.size hB); have BZ := Aside0.mk (blk_below BZ0.out HB2.out); have HB := Aside0.mk (below_then HB0.out HB0.out.size HB2.out); have HSZ := Aside0.mk hB.size; clear hrow hB HSO BZ0)
    | (refine wpList_store_row rfl 29 (.tmp 6) (.tmp 47) rfl w.heap.size rZC_ (by rfl) (by rfl) 29 rZC_ BZ.out (by kernel_rfl) (by rfl) (by kernel_rfl) ?_))
  refine bodyPost_ret (results_list (rs := [.cell 6 29, .tmp 7]) rfl (by simp) (.cell w.heap.size 29 rZC_ (0, 0) _ rfl (blk_row (BZ.out) rZC_) Try.underlying29 rfl (by kernel_rfl) (.tmp .nil))) rfl ?_
  exact HPOST.out _ (((Fr.of_below (HB.out) (fun k => w.heap.size ≤ k)).setRow w.heap.size rZC_ (fun h => Nat.le_refl _)).below (Nat.le_refl _) (fun _ h => h))
set_option maxHeartbeats 8000000 in
set_option maxRecDepth 100000 in
theorem new_id2 (id inc : Int) (A : Option Addr) (k : Nat) (l : List Int) (w : World) (hC : Kd.C (Kd.int .i64) w A l.length l) (hk : l.length ≤ k) (hl : l.length * 8 ≤ 140737488351232) (h2 : 15 < id) :
    Calls Try.prog 6 #[.int .i64 id, .int .u64 inc, .slice A l.length k] w (NewPost id inc l w) := by
  have hno : newOk id inc l = false := by simp [newOk]; omega
  have HPOST := Aside0.mk (newPost_no id inc l w hno)
  clear hno
  have f1 : decide (id < 1) = false := by simp; omega
  have f2 : decide (15 < id) = true := by simpa using h2
  clear h2
  have HL := Aside0.mk hl
  have HK := Aside0.mk hk
  have HB0 := Aside0.mk (below_alloc (Below.refl w.heap.size w) (.cells rZC_ 29))
  have BZ0 := Aside0.mk (heap_alloc_new w (.cells rZC_ 29))
  have HC := Aside0.mk (Kd.C_below hC HB0.out)
  have HS0 := Aside0.mk (show (w.alloc (.cells rZC_ 29)).heap.size = w.heap.size + 1 by simp)
  clear hC hl hk
  go_enter Try.func6, Try.ntmps6
  go_wp2_with fail
  generalize World.alloc _ _ = W1 at HB0 BZ0 HC HS0 ⊢
  have HCF := Aside0.mk (containsFunc_c A k l W1 HC.out HL.out)
  have HBX := Aside0.mk (below_alloc (Below.refl W1.heap.size W1) (.cells #[.slice A l.length k] 23))
  have HSO := Aside0.mk (sorted_c W1.heap.size W1.heap.size (.slice A l.length k) l HL.out (W1.alloc (.cells #[.slice A l.length k] 23)) (by simp) (by simp) (cells_at (heap_alloc_new W1 (.cells #[.slice A l.length k] 23)) rfl).1 (ints_of HC.out (Kd.C_below HC.out HBX.out)))
  go_wp2_with (first
    | (go_at_call 16; refine HCF.out.mono ?_; rintro e w' ⟨rfl, rfl⟩)
    | (go_at_call 19; refine (values_c A l.length k W1).mono ?_; rintro e w' ⟨rfl, rfl⟩)
    | (go_at_call 18; refine HSO.out.mono ?_; rintro e W2 ⟨v, rfl, hrow, hB⟩; have HROW := Aside0.mk hrow; have HB2 := Aside0.mk (below_then HBX.out HBX.out.size hB); have BZ := Aside0.mk (blk_below BZ0.out HB2.out); have HB := Aside0.mk (below_then HB0.out HB0.out.size HB2.out); have HSZ := Aside0.mk hB.size; clear hrow hB HSO BZ0)
    | (refine wpList_store_row rfl 29 (.tmp 6) (.tmp 47) rfl w.heap.size rZC_ (by rfl) (by rfl) 29 rZC_ BZ.out (by kernel_rfl) (by rfl) (by kernel_rfl) ?_))
  refine bodyPost_ret (results_list (rs := [.cell 6 29, .tmp 7]) rfl (by simp) (.cell w.heap.size 29 rZC_ (0, 0) _ rfl (blk_row (BZ.out) rZC_) Try.underlying29 rfl (by kernel_rfl) (.tmp .nil))) rfl ?_
  exact HPOST.out _ (((Fr.of_below (HB.out) (fun k => w.heap.size ≤ k)).setRow w.heap.size rZC_ (fun h => Nat.le_refl _)).below (Nat.le_refl _) (fun _ h => h))
set_option maxHeartbeats 8000000 in
set_option maxRecDepth 100000 in
theorem new_inc (id inc : Int) (A : Option Addr) (k : Nat) (l : List Int) (w : World) (hC : Kd.C (Kd.int .i64) w A l.length l) (hk : l.length ≤ k) (hl : l.length * 8 ≤ 140737488351232) (h1 : 1 ≤ id) (h2 : id ≤ 15) (h3 : countB inc = false) :
    Calls Try.prog 6 #[.int .i64 id, .int .u64 inc, .slice A l.length k] w (NewPost id inc l w) := by
  have hno : newOk id inc l = false := by simp [newOk, h3]
  have HPOST := Aside0.mk (newPost_no id inc l w hno)
  clear hno
  have f1 : decide (id < 1) = false := by simp; omega
  have f2 : decide (15 < id) = false := by simp; omega
  clear h1 h2
  have HCB := Aside0.mk (show countB inc = false from h3)
  clear h3
  have HL := Aside0.mk hl
  have HK := Aside0.mk hk
  have HB0 := Aside0.mk (below_alloc (Below.refl w.heap.size w) (.cells rZC_ 29))
  have BZ0 := Aside0.mk (heap_alloc_new w (.cells rZC_ 29))
  have HC := Aside0.mk (Kd.C_below hC HB0.out)
  have HS0 := Aside0.mk (show (w.alloc (.cells rZC_ 29)).heap.size = w.heap.size + 1 by simp)
  clear hC hl hk
  go_enter Try.func6, Try.ntmps6
  go_wp2_with fail
  generalize World.alloc _ _ = W1 at HB0 BZ0 HC HS0 ⊢
  have HCF := Aside0.mk (containsFunc_c A k l W1 HC.out HL.out)
  have HBX := Aside0.mk (below_alloc (Below.refl W1.heap.size W1) (.cells #[.slice A l.length k] 23))
  have HSO := Aside0.mk (sorted_c W1.heap.size W1.heap.size (.slice A l.length k) l HL.out (W1.alloc (.cells #[.slice A l.length k] 23)) (by simp) (by simp) (cells_at (heap_alloc_new W1 (.cells #[.slice A l.length k] 23)) rfl).1 (ints_of HC.out (Kd.C_below HC.out HBX.out)))
  go_wp2_with (first
    | (go_at_call 16; refine HCF.out.mono ?_; rintro e w' ⟨rfl, rfl⟩)
    | (go_at_call 19; refine (values_c A l.length k W1).mono ?_; rintro e w' ⟨rfl, rfl⟩)
    | (go_at_call 18; refine HSO.out.mono ?_; rintro e W2 ⟨v, rfl, hrow, hB⟩; have HROW := Aside0.mk hrow; have HB2 := Aside0.mk (below_then HBX.out HBX.out.size hB); have BZ := Aside0.mk (blk_below BZ0.out HB2.out); have HB := Aside0.mk (below_then HB0.out HB0.out.size HB2.out); have HSZ := Aside0.mk hB.size; clear hrow hB HSO BZ0)
    | (go_at_call 20; refine (HCB.out ▸ count_c inc W2).mono ?_; rintro e w' ⟨rfl, rfl⟩)
    | (refine wpList_store_row rfl 29 (.tmp 6) (.tmp 47) rfl w.heap.size rZC_ (by rfl) (by rfl) 29 rZC_ BZ.out (by kernel_rfl) (by rfl) (by kernel_rfl) ?_))
  refine bodyPost_ret (results_list (rs := [.cell 6 29, .tmp 7]) rfl (by simp) (.cell w.heap.size 29 rZC_ (0, 0) _ rfl (blk_row (BZ.out) rZC_) Try.underlying29 rfl (by kernel_rfl) (.tmp .nil))) rfl ?_
  exact HPOST.out _ (((Fr.of_below (HB.out) (fun k => w.heap.size ≤ k)).setRow w.heap.size rZC_ (fun h => Nat.le_refl _)).below (Nat.le_refl _) (fun _ h => h))
set_option maxHeartbeats 8000000 in
set_option maxRecDepth 100000 in
theorem new_none (id inc : Int) (A : Option Addr) (k : Nat) (l : List Int) (w : World) (hC : Kd.C (Kd.int .i64) w A l.length l) (hk : l.length ≤ k) (hl : l.length * 8 ≤ 140737488351232) (h1 : 1 ≤ id) (h2 : id ≤ 15) (h3 : countB inc = true) (h4 : l.length = 0) :
    Calls Try.prog 6 #[.int .i64 id, .int .u64 inc, .slice A l.length k] w (NewPost id inc l w) := by
  have hno : newOk id inc l = false := by simp [newOk, h4]
  have HPOST := Aside0.mk (newPost_no id inc l w hno)
  clear hno
  have f1 : decide (id < 1) = false := by simp; omega
  have f2 : decide (15 < id) = false := by simp; omega
  clear h1 h2
  have HCB := Aside0.mk (show countB inc = true from h3)
  clear h3
  have HL := Aside0.mk hl
  have HK := Aside0.mk hk
  have HB0 := Aside0.mk (below_alloc (Below.refl w.heap.size w) (.cells rZC_ 29))
  have BZ0 := Aside0.mk (heap_alloc_new w (.cells rZC_ 29))
  have HC := Aside0.mk (Kd.C_below hC HB0.out)
  have HS0 := Aside0.mk (show (w.alloc (.cells rZC_ 29)).heap.size = w.heap.size + 1 by simp)
  clear hC hl hk
  go_enter Try.func6, Try.ntmps6
  go_wp2_with fail
  generalize World.alloc _ _ = W1 at HB0 BZ0 HC HS0 ⊢
  have HCF := Aside0.mk (containsFunc_c A k l W1 HC.out HL.out)
  have HBX := Aside0.mk (below_alloc (Below.refl W1.heap.size W1) (.cells #[.slice A l.length k] 23))
  have HSO := Aside0.mk (sorted_c W1.heap.size W1.heap.size (.slice A l.length k) l HL.out (W1.alloc (.cells #[.slice A l.length k] 23)) (by simp) (by simp) (cells_at (heap_alloc_new W1 (.cells #[.slice A l.length k] 23)) rfl).1 (ints_of HC.out (Kd.C_below HC.out HBX.out)))
  generalize hn : l.length = n at *
  have HNN := Aside0.mk hn
  clear hn
  subst h4
  go_wp2_with (first
    | (go_at_call 16; refine HCF.out.mono ?_; rintro e w' ⟨rfl, rfl⟩)
    | (go_at_call 19; refine (values_c A _ k W1).mono ?_; rintro e w' ⟨rfl, rfl⟩)
    | (go_at_call 18; refine HSO.out.mono ?_; rintro e W2 ⟨v, rfl, hrow, hB⟩; have HROW := Aside0.mk hrow; have HB2 := Aside0.mk (below_then HBX.out HBX.out.size hB); have BZ := Aside0.mk (blk_below BZ0.out HB2.out); have HB := Aside0.mk (below_then HB0.out HB0.out.size HB2.out); have HSZ := Aside0.mk hB.size; clear hrow hB HSO BZ0)
    | (go_at_call 20; refine (HCB.out ▸ count_c inc W2).mono ?_; rintro e w' ⟨rfl, rfl⟩)
    | (refine wpList_store_row rfl 29 (.tmp 6) (.tmp 47) rfl w.heap.size rZC_ (by rfl) (by rfl) 29 rZC_ BZ.out (by kernel_rfl) (by rfl) (by kernel_rfl) ?_))
  refine bodyPost_ret (results_list (rs := [.cell 6 29, .tmp 7]) rfl (by simp) (.cell w.heap.size 29 rZC_ (0, 0) _ rfl (blk_row (BZ.out) rZC_) Try.underlying29 rfl (by kernel_rfl) (.tmp .nil))) rfl ?_
  exact HPOST.out _ (((Fr.of_below (HB.out) (fun k => w.heap.size ≤ k)).setRow w.heap.size rZC_ (fun h => Nat.le_refl _)).below (Nat.le_refl _) (fun _ h => h))
set_option maxHeartbeats 8000000 in
set_option maxRecDepth 100000 in
theorem new_many (id inc : Int) (A : Option Addr) (k : Nat) (l : List Int) (w : World) (hC : Kd.C (Kd.int .i64) w A l.length l) (hk : l.length ≤ k) (hl : l.length * 8 ≤ 140737488351232) (h1 : 1 ≤ id) (h2 : id ≤ 15) (h3 : countB inc = true) (h4 : 3 < l.length) :
    Calls Try.prog 6 #[.int .i64 id, .int .u64 inc, .slice A l.length k] w (NewPost id inc l w) := by
  have hno : newOk id inc l = false := by simp [newOk]; omega
  have HPOST := Aside0.mk (newPost_no id inc l w hno)
  clear hno
  have f1 : decide (id < 1) = false := by simp; omega
  have f2 : decide (15 < id) = false := by simp; omega
  clear h1 h2
  have HCB := Aside0.mk (show countB inc = true from h3)
  clear h3
  have HL := Aside0.mk hl
  have HK := Aside0.mk hk
  have HB0 := Aside0.mk (below_alloc (Below.refl w.heap.size w) (.cells rZC_ 29))
  have BZ0 := Aside0.mk (heap_alloc_new w (.cells rZC_ 29))
  have HC := Aside0.mk (Kd.C_below hC HB0.out)
  have HS0 := Aside0.mk (show (w.alloc (.cells rZC_ 29)).heap.size = w.heap.size + 1 by simp)
  clear hC hl hk
  go_enter Try.func6, Try.ntmps6
  go_wp2_with fail
  generalize World.alloc _ _ = W1 at HB0 BZ0 HC HS0 ⊢
  have HCF := Aside0.mk (containsFunc_c A k l W1 HC.out HL.out)
  have HBX := Aside0.mk (below_alloc (Below.refl W1.heap.size W1) (.cells #[.slice A l.length k] 23))
  have HSO := Aside0.mk (sorted_c W1.heap.size W1.heap.size (.slice A l.length k) l HL.out (W1.alloc (.cells #[.slice A l.length k] 23)) (by simp) (by simp) (cells_at (heap_alloc_new W1 (.cells #[.slice A l.length k] 23)) rfl).1 (ints_of HC.out (Kd.C_below HC.out HBX.out)))
  generalize hn : l.length = n at *
  have HNN := Aside0.mk hn
  clear hn
  have f4 : decide (n = 0) = false := decide_eq_false (by omega)
  have f4b : ¬ n = 0 := by omega
  have f4c : decide ((n : Int) < 1) = false := decide_eq_false (by omega)
  have f4d : decide (n < 1) = false := decide_eq_false (by omega)
  have f5 : decide (3 < (n : Int)) = true := decide_eq_true (by omega)
  have f5b : decide (3 < n) = true := decide_eq_true (by omega)
  go_wp2_with (first
    | (go_at_call 16; refine HCF.out.mono ?_; rintro e w' ⟨rfl, rfl⟩)
    | (go_at_call 19; refine (values_c A _ k W1).mono ?_; rintro e w' ⟨rfl, rfl⟩)
    | (go_at_call 18; refine HSO.out.mono ?_; rintro e W2 ⟨v, rfl, hrow, hB⟩; have HROW := Aside0.mk hrow; have HB2 := Aside0.mk (below_then HBX.out HBX.out.size hB); have BZ := Aside0.mk (blk_below BZ0.out HB2.out); have HB := Aside0.mk (below_then HB0.out HB0.out.size HB2.out); have HSZ := Aside0.mk hB.size; clear hrow hB HSO BZ0)
    | (go_at_call 20; refine (HCB.out ▸ count_c inc W2).mono ?_; rintro e w' ⟨rfl, rfl⟩)
    | (refine wpList_store_row rfl 29 (.tmp 6) (.tmp 47) rfl w.heap.size rZC_ (by rfl) (by rfl) 29 rZC_ BZ.out (by kernel_rfl) (by rfl) (by kernel_rfl) ?_))
  refine bodyPost_ret (results_list (rs := [.cell 6 29, .tmp 7]) rfl (by simp) (.cell w.heap.size 29 rZC_ (0, 0) _ rfl (blk_row (BZ.out) rZC_) Try.underlying29 rfl (by kernel_rfl) (.tmp .nil))) rfl ?_
  exact HPOST.out _ (((Fr.of_below (HB.out) (fun k => w.heap.size ≤ k)).setRow w.heap.size rZC_ (fun h => Nat.le_refl _)).below (Nat.le_refl _) (fun _ h => h))
set_option maxHeartbeats 8000000 in
set_option maxRecDepth 100000 in
theorem new_odd (id inc : Int) (A : Option Addr) (k : Nat) (l : List Int) (w : World) (hC : Kd.C (Kd.int .i64) w A l.length l) (hk : l.length ≤ k) (hl : l.length * 8 ≤ 140737488351232) (h1 : 1 ≤ id) (h2 : id ≤ 15) (h3 : countB inc = true) (h4 : 1 ≤ l.length) (h5 : l.length ≤ 3) (h6 : l.any oddB = true) :
    Calls Try.prog 6 #[.int .i64 id, .int .u64 inc, .slice A l.length k] w (NewPost id inc l w) := by
  have hno : newOk id inc l = false := by simp only [newOk, h6]; simp
  have HPOST := Aside0.mk (newPost_no id inc l w hno)
  clear hno
  have f1 : decide (id < 1) = false := by simp; omega
  have f2 : decide (15 < id) = false := by simp; omega
  clear h1 h2
  have HCB := Aside0.mk (show countB inc = true from h3)
  clear h3
  have HOD := Aside0.mk h6
  clear h6
  have HL := Aside0.mk hl
  have HK := Aside0.mk hk
  have HB0 := Aside0.mk (below_alloc (Below.refl w.heap.size w) (.cells rZC_ 29))
  have BZ0 := Aside0.mk (heap_alloc_new w (.cells rZC_ 29))
  have HC := Aside0.mk (Kd.C_below hC HB0.out)
  have HS0 := Aside0.mk (show (w.alloc (.cells rZC_ 29)).heap.size = w.heap.size + 1 by simp)
  clear hC hl hk
  go_enter Try.func6, Try.ntmps6
  go_wp2_with fail
  generalize World.alloc _ _ = W1 at HB0 BZ0 HC HS0 ⊢
  have HCF := Aside0.mk (containsFunc_c A k l W1 HC.out HL.out)
  have HBX := Aside0.mk (below_alloc (Below.refl W1.heap.size W1) (.cells #[.slice A l.length k] 23))
  have HSO := Aside0.mk (sorted_c W1.heap.size W1.heap.size (.slice A l.length k) l HL.out (W1.alloc (.cells #[.slice A l.length k] 23)) (by simp) (by simp) (cells_at (heap_alloc_new W1 (.cells #[.slice A l.length k] 23)) rfl).1 (ints_of HC.out (Kd.C_below HC.out HBX.out)))
  generalize hn : l.length = n at *
  have HNN := Aside0.mk hn
  clear hn
  have f4 : decide (n = 0) = false := decide_eq_false (by omega)
  have f4b : ¬ n = 0 := by omega
  have f4c : decide ((n : Int) < 1) = false := decide_eq_false (by omega)
  have f4d : decide (n < 1) = false := decide_eq_false (by omega)
  have f5 : decide (3 < (n : Int)) = false := decide_eq_false (by omega)
  have f5b : decide (3 < n) = false := decide_eq_false (by omega)
  rw [HOD.out] at HCF
  go_wp2_with (first
    | (go_at_call 16; refine HCF.out.mono ?_; rintro e w' ⟨rfl, rfl⟩)
    | (go_at_call 19; refine (values_c A _ k W1).mono ?_; rintro e w' ⟨rfl, rfl⟩)
    | (go_at_call 18; refine HSO.out.mono ?_; rintro e W2 ⟨v, rfl, hrow, hB⟩; have HROW := Aside0.mk hrow; have HB2 := Aside0.mk (below_then HBX.out HBX.out.size hB); have BZ := Aside0.mk (blk_below BZ0.out HB2.out); have HB := Aside0.mk (below_then HB0.out HB0.out.size HB2.out); have HSZ := Aside0.mk hB.size; clear hrow hB HSO BZ0)
    | (go_at_call 20; refine (HCB.out ▸ count_c inc W2).mono ?_; rintro e w' ⟨rfl, rfl⟩)
    | (refine wpList_store_row rfl 29 (.tmp 6) (.tmp 47) rfl w.heap.size rZC_ (by rfl) (by rfl) 29 rZC_ BZ.out (by kernel_rfl) (by rfl) (by kernel_rfl) ?_))
  refine bodyPost_ret (results_list (rs := [.cell 6 29, .tmp 7]) rfl (by simp) (.cell w.heap.size 29 rZC_ (0, 0) _ rfl (blk_row (BZ.out) rZC_) Try.underlying29 rfl (by kernel_rfl) (.tmp .nil))) rfl ?_
  exact HPOST.out _ (((Fr.of_below (HB.out) (fun k => w.heap.size ≤ k)).setRow w.heap.size rZC_ (fun h => Nat.le_refl _)).below (Nat.le_refl _) (fun _ h => h))

theorem srt_len (l : List Int) : (srt l).length = l.length := by simp [srt]
theorem srt_row {W : World} {B n : Nat} {v : Value} {l : List Int} (h : W.ownsRow B 3 1 v n ((l.mergeSort fun x y => decide (x ≤ y)).map (Value.int .i64))) (hn : l.length = n) : W.ownsRow B 3 1 v (srt l).length ((srt l).map (Value.int .i64)) := by
  rw [srt_len, hn]
  exact h
set_option maxHeartbeats 8000000 in
set_option maxRecDepth 100000 in
theorem new_same (id inc : Int) (A : Option Addr) (k : Nat) (l : List Int) (w : World) (hC : Kd.C (Kd.int .i64) w A l.length l) (hk : l.length ≤ k) (hl : l.length * 8 ≤ 140737488351232) (h1 : 1 ≤ id) (h2 : id ≤ 15) (h3 : countB inc = true) (h4 : 1 ≤ l.length) (h5 : l.length ≤ 3) (h6 : l.any oddB = false) (h7 : (Lib.compact (srt l)).length ≠ l.length) :
    Calls Try.prog 6 #[.int .i64 id, .int .u64 inc, .slice A l.length k] w (NewPost id inc l w) := by
  have hno : newOk id inc l = false := by simp [newOk, h7]
  have HPOST := Aside0.mk (newPost_no id inc l w hno)
  clear hno
  have f1 : decide (id < 1) = false := by simp; omega
  have f2 : decide (15 < id) = false := by simp; omega
  clear h1 h2
  have HCB := Aside0.mk (show countB inc = true from h3)
  clear h3
  have HOD := Aside0.mk h6
  clear h6
  have HL := Aside0.mk hl
  have HK := Aside0.mk hk
  have HB0 := Aside0.mk (below_alloc (Below.refl w.heap.size w) (.cells rZC_ 29))
  have BZ0 := Aside0.mk (heap_alloc_new w (.cells rZC_ 29))
  have HC := Aside0.mk (Kd.C_below hC HB0.out)
  have HS0 := Aside0.mk (show (w.alloc (.cells rZC_ 29)).heap.size = w.heap.size + 1 by simp)
  clear hC hl hk
  go_enter Try.func6, Try.ntmps6
  go_wp2_with fail
  generalize World.alloc _ _ = W1 at HB0 BZ0 HC HS0 ⊢
  have HCF := Aside0.mk (containsFunc_c A k l W1 HC.out HL.out)
  have HBX := Aside0.mk (below_alloc (Below.refl W1.heap.size W1) (.cells #[.slice A l.length k] 23))
  have HSO := Aside0.mk (sorted_c W1.heap.size W1.heap.size (.slice A l.length k) l HL.out (W1.alloc (.cells #[.slice A l.length k] 23)) (by simp) (by simp) (cells_at (heap_alloc_new W1 (.cells #[.slice A l.length k] 23)) rfl).1 (ints_of HC.out (Kd.C_below HC.out HBX.out)))
  generalize hn : l.length = n at *
  have HNN := Aside0.mk hn
  clear hn
  have f4 : decide (n = 0) = false := decide_eq_false (by omega)
  have f4b : ¬ n = 0 := by omega
  have f4c : decide ((n : Int) < 1) = false := decide_eq_false (by omega)
  have f4d : decide (n < 1) = false := decide_eq_false (by omega)
  have f5 : decide (3 < (n : Int)) = false := decide_eq_false (by omega)
  have f5b : decide (3 < n) = false := decide_eq_false (by omega)
  rw [HOD.out] at HCF
  have HLP := Aside0.mk (show 0 < (srt l).length by rw [srt_len, HNN.out]; omega)
  generalize hcl : (Lib.compact (srt l)).length = m at *
  have HCL := Aside0.mk hcl
  clear hcl
  have f7 : ((m : Int) != (n : Int)) = true := by simpa using (show ¬ ((m : Int) = (n : Int)) by omega)
  have f7b : (m != n) = true := by simpa using h7
  clear h7 h4 h5
  go_wp2_with (first
    | (go_at_call 16; refine HCF.out.mono ?_; rintro e w' ⟨rfl, rfl⟩)
    | (go_at_call 19; refine (values_c A _ k W1).mono ?_; rintro e w' ⟨rfl, rfl⟩)
    | (go_at_call 18; refine HSO.out.mono ?_; rintro e W2 ⟨v, rfl, hrow, hB⟩; have HROW := Aside0.mk hrow; have HB2 := Aside0.mk (below_then HBX.out HBX.out.size hB); have BZ := Aside0.mk (blk_below BZ0.out HB2.out); have HB := Aside0.mk (below_then HB0.out HB0.out.size HB2.out); have HSZ := Aside0.mk hB.size; clear hrow hB HSO BZ0)
    | (go_at_call 20; refine (HCB.out ▸ count_c inc W2).mono ?_; rintro e w' ⟨rfl, rfl⟩)
    | (go_at_call 21; refine (compact_c W2 _ v (srt l) (srt_row HROW.out HNN.out) HSZ.out HLP.out).mono ?_; rintro e W3 ⟨p, cc, rfl, hb3⟩; have HB3 := Aside0.mk (HB.out.trans (hb3.mono (by have := HS0.out; simp; omega))); have BZ3 := Aside0.mk ((hb3.block _ (by have := HS0.out; simp; omega)).trans BZ.out); have HB13 := Aside0.mk (HB2.out.trans (hb3.mono (by simp))); rw [HCL.out]; clear hb3 HROW)
    | (refine wpList_store_row rfl 29 (.tmp 6) (.tmp 47) rfl w.heap.size rZC_ (by rfl) (by rfl) 29 rZC_ BZ3.out (by kernel_rfl) (by rfl) (by kernel_rfl) ?_))
  refine bodyPost_ret (results_list (rs := [.cell 6 29, .tmp 7]) rfl (by simp) (.cell w.heap.size 29 rZC_ (0, 0) _ rfl (blk_row (BZ3.out) rZC_) Try.underlying29 rfl (by kernel_rfl) (.tmp .nil))) rfl ?_
  exact HPOST.out _ (((Fr.of_below (HB3.out) (fun k => w.heap.size ≤ k)).setRow w.heap.size rZC_ (fun h => Nat.le_refl _)).below (Nat.le_refl _) (fun _ h => h))
set_option maxHeartbeats 8000000 in
set_option maxRecDepth 100000 in
theorem new_ok (id inc : Int) (A : Option Addr) (k : Nat) (l : List Int) (w : World) (hC : Kd.C (Kd.int .i64) w A l.length l) (hk : l.length ≤ k) (hl : l.length * 8 ≤ 140737488351232) (h1 : 1 ≤ id) (h2 : id ≤ 15) (h3 : countB inc = true) (h4 : 1 ≤ l.length) (h5 : l.length ≤ 3) (h6 : l.any oddB = false) (h7 : (Lib.compact (srt l)).length = l.length) :
    Calls Try.prog 6 #[.int .i64 id, .int .u64 inc, .slice A l.length k] w (NewPost id inc l w) := by
  have HYES := Aside0.mk (show newOk id inc l = true by simp only [newOk, h3, h6, h7]; simp; omega)
  have f1 : decide (id < 1) = false := by simp; omega
  have f2 : decide (15 < id) = false := by simp; omega
  clear h1 h2
  have HCB := Aside0.mk (show countB inc = true from h3)
  clear h3
  have HOD := Aside0.mk h6
  clear h6
  have HL := Aside0.mk hl
  have HK := Aside0.mk hk
  have HB0 := Aside0.mk (below_alloc (Below.refl w.heap.size w) (.cells rZC_ 29))
  have BZ0 := Aside0.mk (heap_alloc_new w (.cells rZC_ 29))
  have HC := Aside0.mk (Kd.C_below hC HB0.out)
  have HS0 := Aside0.mk (show (w.alloc (.cells rZC_ 29)).heap.size = w.heap.size + 1 by simp)
  clear hC hl hk
  go_enter Try.func6, Try.ntmps6
  go_wp2_with fail
  generalize World.alloc _ _ = W1 at HB0 BZ0 HC HS0 ⊢
  have HCF := Aside0.mk (containsFunc_c A k l W1 HC.out HL.out)
  have HBX := Aside0.mk (below_alloc (Below.refl W1.heap.size W1) (.cells #[.slice A l.length k] 23))
  have HSO := Aside0.mk (sorted_c W1.heap.size W1.heap.size (.slice A l.length k) l HL.out (W1.alloc (.cells #[.slice A l.length k] 23)) (by simp) (by simp) (cells_at (heap_alloc_new W1 (.cells #[.slice A l.length k] 23)) rfl).1 (ints_of HC.out (Kd.C_below HC.out HBX.out)))
  have HCLN := Aside0.mk (fun (W : World) (hb : Below W1.heap.size W1 W) => slices_Clone_int_int.calls A k l l W (Kd.C_below HC.out hb) HK.out (show slices_Clone_int_int.f l = some l by unfold slices_Clone_int_int.f; rw [if_pos (by have := HL.out; omega)]))
  generalize hn : l.length = n at *
  have HNN := Aside0.mk hn
  clear hn
  have f4 : decide (n = 0) = false := decide_eq_false (by omega)
  have f4b : ¬ n = 0 := by omega
  have f4c : decide ((n : Int) < 1) = false := decide_eq_false (by omega)
  have f4d : decide (n < 1) = false := decide_eq_false (by omega)
  have f5 : decide (3 < (n : Int)) = false := decide_eq_false (by omega)
  have f5b : decide (3 < n) = false := decide_eq_false (by omega)
  rw [HOD.out] at HCF
  have HLP := Aside0.mk (show 0 < (srt l).length by rw [srt_len, HNN.out]; omega)
  generalize hcl : (Lib.compact (srt l)).length = m at *
  have HCL := Aside0.mk hcl
  clear hcl
  obtain rfl : m = n := h7
  have f7 : ((m : Int) != (m : Int)) = false := by simp
  clear h4 h5
  go_wp2_with (first
    | (go_at_call 16; refine HCF.out.mono ?_; rintro e w' ⟨rfl, rfl⟩)
    | (go_at_call 19; refine (values_c A _ k W1).mono ?_; rintro e w' ⟨rfl, rfl⟩)
    | (go_at_call 18; refine HSO.out.mono ?_; rintro e W2 ⟨v, rfl, hrow, hB⟩; have HROW := Aside0.mk hrow; have HB2 := Aside0.mk (below_then HBX.out HBX.out.size hB); have BZ := Aside0.mk (blk_below BZ0.out HB2.out); have HB := Aside0.mk (below_then HB0.out HB0.out.size HB2.out); have HSZ := Aside0.mk hB.size; clear hrow hB HSO BZ0)
    | (go_at_call 20; refine (HCB.out ▸ count_c inc W2).mono ?_; rintro e w' ⟨rfl, rfl⟩)
    | (go_at_call 21; refine (compact_c W2 _ v (srt l) (srt_row HROW.out HNN.out) HSZ.out HLP.out).mono ?_; rintro e W3 ⟨p, cc, rfl, hb3⟩; have HB3 := Aside0.mk (HB.out.trans (hb3.mono (by have := HS0.out; simp; omega))); have BZ3 := Aside0.mk ((hb3.block _ (by have := HS0.out; simp; omega)).trans BZ.out); have HB13 := Aside0.mk (HB2.out.trans (hb3.mono (by simp))); rw [HCL.out]; clear hb3 HROW)
    | (go_at_call 22; refine (HCLN.out W3 HB13.out).mono ?_; rintro e W4 ⟨v5, rfl, hR5, hB5⟩; obtain ⟨A5, k5, rfl, hl5, hF5⟩ := R_F0 hR5; have HF5 := Aside0.mk hF5; have HL5 := Aside0.mk hl5; have HB4 := Aside0.mk (below_then HB3.out HB3.out.size hB5); have BZ4 := Aside0.mk (blk_below BZ3.out hB5); have HSZ3 := Aside0.mk HB3.out.size; clear hR5 hB5 hF5 hl5; simp only [HNN.out])
    | (refine wpList_store_row rfl 29 (.tmp 6) (.tmp 52) rfl w.heap.size #[.int .i64 id, .int .u64 inc, .int .u64 0, .slice A5 m k5, .int .i64 0, .int .i64 0, .int .u64 0, .int .u64 0, .int .i64 0, .int .i64 0, .int .i64 0, .int .u64 0, .int .u64 0, .slice none 0 0, .int .i64 0, .int .u64 0, .int .u64 0] (by rfl) (by rfl) 29 rZC_ BZ4.out (by kernel_rfl) (by rfl) (by kernel_rfl) ?_))
  have HFN := Aside0.mk ((Fr.of_below HB4.out (fun k => w.heap.size ≤ k)).setRow w.heap.size #[.int .i64 id, .int .u64 inc, .int .u64 0, .slice A5 m k5, .int .i64 0, .int .i64 0, .int .u64 0, .int .u64 0, .int .i64 0, .int .i64 0, .int .i64 0, .int .u64 0, .int .u64 0, .slice none 0 0, .int .i64 0, .int .u64 0, .int .u64 0] (fun h => Nat.le_refl _))
  have BZN := Aside0.mk (blk_row BZ4.out #[.int .i64 id, .int .u64 inc, .int .u64 0, .slice A5 m k5, .int .i64 0, .int .i64 0, .int .u64 0, .int .u64 0, .int .i64 0, .int .i64 0, .int .i64 0, .int .u64 0, .int .u64 0, .slice none 0 0, .int .i64 0, .int .u64 0, .int .u64 0])
  refine bodyPost_ret (results_list (rs := [.cell 6 29, .tmp 7]) rfl (by simp) (.cell w.heap.size 29 #[.int .i64 id, .int .u64 inc, .int .u64 0, .slice A5 m k5, .int .i64 0, .int .i64 0, .int .u64 0, .int .u64 0, .int .i64 0, .int .i64 0, .int .i64 0, .int .u64 0, .int .u64 0, .slice none 0 0, .int .i64 0, .int .u64 0, .int .u64 0] (0, 0) _ rfl BZN.out Try.underlying29 rfl (by kernel_rfl) (.tmp .nil))) rfl ?_
  refine ⟨fun _ => ⟨A5, k5, by rw [← HNN.out]; rfl, ⟨?_, HL5.out, Kd.F_nil _ _ _, Nat.le_refl _⟩⟩, (fun h => by rw [HYES.out] at h; cases h), HFN.out.below (Nat.le_refl _) (fun _ h => h)⟩
  exact Kd.F_mono (Kd.F_step HF5.out (W1 := W4.setRow w.heap.size #[.int .i64 id, .int .u64 inc, .int .u64 0, .slice A5 m k5, .int .i64 0, .int .i64 0, .int .u64 0, .int .u64 0, .int .i64 0, .int .i64 0, .int .i64 0, .int .u64 0, .int .u64 0, .slice none 0 0, .int .i64 0, .int .u64 0, .int .u64 0]) (fun k hk _ => setRow_other W4 w.heap.size k _ (by have := HB13.out.size; have := HS0.out; omega))) (fun k hk => Nat.le_trans HSZ3.out hk)
set_option maxHeartbeats 400000 in
set_option maxRecDepth 100000 in
theorem new_c (id inc : Int) (A : Option Addr) (k : Nat) (l : List Int) (w : World) (hC : Kd.C (Kd.int .i64) w A l.length l) (hk : l.length ≤ k) (hl : l.length * 8 ≤ 140737488351232) : Calls Try.prog 6 #[.int .i64 id, .int .u64 inc, .slice A l.length k] w (NewPost id inc l w) := by
  by_cases h1 : id < 1
  · exact new_id1 id inc A k l w hC hk hl h1
  by_cases h2 : 15 < id
  · exact new_id2 id inc A k l w hC hk hl h2
  cases h3 : countB inc with
  | false => exact new_inc id inc A k l w hC hk hl (by omega) (by omega) h3
  | true =>
    by_cases h4 : l.length = 0
    · exact new_none id inc A k l w hC hk hl (by omega) (by omega) h3 h4
    by_cases h5 : 3 < l.length
    · exact new_many id inc A k l w hC hk hl (by omega) (by omega) h3 h5
    cases h6 : l.any oddB with
    | true => exact new_odd id inc A k l w hC hk hl (by omega) (by omega) h3 (by omega) (by omega) h6
    | false =>
      by_cases h7 : (Lib.compact (srt l)).length = l.length
      · exact new_ok id inc A k l w hC hk hl (by omega) (by omega) h3 (by omega) (by omega) h6 h7
      · exact new_same id inc A k l w hC hk hl (by omega) (by omega) h3 (by omega) (by omega) h6 h7
end Go.Proofs.Ytajnladoomkgaaa.Cli
