/- NetTrue: two rows of messages beside a net, and the law of numbers. -/
import Derived.Test.YtnaefndclalepaaAwk
namespace Go.Proofs.Ytnaefndclalepaa.Net
set_option linter.unusedVariables false
set_option linter.unusedSimpArgs false
open Go.RowKit Go.Shelf Go.Proofs.YtnaefndclalepaaW.PrintWords Go.Proofs.YtnaefndclalepaaW.PrintLast Go.Proofs.YtnaefndclalepaaW.PrintMore Go.Proofs.Ytnaefndclalepaa.XN
/-! ### count, many -/
def sameB (a b : Int) (l : List Int) (x : S33) : Bool := (scrivenerref05_Same.f x.f0 x.f1 x.f2 a b l).getD false
theorem same_f (a b : Int) (l : List Int) (x : S33) : scrivenerref05_Same.f x.f0 x.f1 x.f2 a b l = some (sameB a b l x) := by
  unfold sameB scrivenerref05_Same.f
  split <;> (try split) <;> rfl
theorem count_l0 (xs : List S33) (a b : Int) (l : List Int) (hl : xs.length ≤ 100000) : ∀ (d i c k : Nat), i + d = xs.length → c ≤ i → d < k → scrivenerlaw05_count.l0 k xs c i a b l = some ((c + (xs.drop i).countP (sameB a b l) : Nat) : Int)
  | 0, i, c, k, hi, hc, hk => by
    obtain ⟨k, rfl⟩ : ∃ m, k = m + 1 := ⟨k - 1, by omega⟩
    simp only [scrivenerlaw05_count.l0]
    rw [if_neg (by omega), List.drop_of_length_le (by omega)]
    simp
  | d + 1, i, c, k, hi, hc, hk => by
    obtain ⟨k, rfl⟩ : ∃ m, k = m + 1 := ⟨k - 1, by omega⟩
    have hlt : i < xs.length := by omega
    have hd : xs.drop i = xs[i] :: xs.drop (i + 1) := List.drop_eq_getElem_cons hlt
    have hr : rd_T33 xs (i : Int) = xs[i] := by simp [rd_T33, hlt]
    have hw : wrap64 ((i : Int) + 1) = ((i + 1 : Nat) : Int) := by unfold wrap64; omega
    have hw2 : wrap64 ((c : Int) + 1) = ((c + 1 : Nat) : Int) := by unfold wrap64; omega
    simp only [scrivenerlaw05_count.l0]
    rw [if_pos (by omega), if_pos (by omega), hr, same_f, hd, List.countP_cons, hw, hw2]
    simp only [Option.bind_some]
    by_cases h : sameB a b l xs[i] = true
    · rw [if_pos h, if_pos h, count_l0 xs a b l hl d (i + 1) (c + 1) k (by omega) (by omega) (by omega)]
      congr 2
      omega
    · rw [if_neg h, if_neg h, count_l0 xs a b l hl d (i + 1) c k (by omega) (by omega) (by omega)]
      rfl
theorem count_f (xs : List S33) (a b : Int) (l : List Int) (hl : xs.length ≤ 100000) : scrivenerlaw05_count.f (xs.length + 1) xs a b l = some (xs.countP (sameB a b l) : Int) := by
  have := count_l0 xs a b l hl xs.length 0 0 (xs.length + 1) (by omega) (by omega) (by omega)
  simpa [scrivenerlaw05_count.f] using this
theorem wid {n : Int} (h0 : 0 ≤ n) (h1 : n ≤ 4611686018427387904) : wrap64 n = n := by unfold wrap64; omega
theorem wrap3 (s n : Nat) (hs : s ≤ 600) (hn : n ≤ 2 ^ 63 - 1) : wrap64 ((s : Int) + wrap64 (1 + wrap64 ((n : Int) / 256))) = ((s + (1 + n / 256) : Nat) : Int) := by
  obtain ⟨m, hm⟩ : ∃ m : Nat, m = n / 256 := ⟨_, rfl⟩
  have h1 : m ≤ 36028797018963968 := by rw [hm]; omega
  have h2 : (n : Int) / 256 = (m : Int) := by rw [hm]; rfl
  rw [← hm, h2]
  clear hm h2 hn
  rw [wid (n := (m : Int)) (by omega) (by omega), wid (n := 1 + (m : Int)) (by omega) (by omega), wid (by omega) (by omega)]
  omega
theorem many_l0 (xs : List S41) (hx : ∀ x, x ∈ xs → x.f4.length ≤ maxLen) : ∀ (d i s k : Nat), i + d = xs.length → i ≤ s → s ≤ 600 → d < k → ∃ r, scrivenerlaw05_many.l0 k xs s i = some r ∧ (r = false → xs.length ≤ 600)
  | 0, i, s, k, hi, his, hs, hk => by
    obtain ⟨k, rfl⟩ : ∃ m, k = m + 1 := ⟨k - 1, by omega⟩
    refine ⟨false, ?_, fun _ => by omega⟩
    simp only [scrivenerlaw05_many.l0]
    rw [if_neg (by omega)]
  | d + 1, i, s, k, hi, his, hs, hk => by
    obtain ⟨k, rfl⟩ : ∃ m, k = m + 1 := ⟨k - 1, by omega⟩
    have hlt : i < xs.length := by omega
    have hr : rd_T41 xs (i : Int) = xs[i] := by simp [rd_T41, hlt]
    have hw : wrap64 ((i : Int) + 1) = ((i + 1 : Nat) : Int) := by unfold wrap64; omega
    have hlen := hx xs[i] (List.getElem_mem hlt)
    unfold maxLen at hlen
    generalize hn : xs[i].f4.length = n at *
    have hw2 := wrap3 s n hs hlen
    simp only [scrivenerlaw05_many.l0]
    rw [if_pos (by omega), if_pos (by omega), hr, hn, hw, hw2]
    by_cases h : (600 : Int) < ((s + (1 + n / 256) : Nat) : Int)
    · rw [if_pos h]
      exact ⟨true, rfl, fun h => by cases h⟩
    · rw [if_neg h]
      exact many_l0 xs hx d (i + 1) (s + (1 + n / 256)) k (by omega) (by omega) (by omega) (by omega)
theorem many_f (xs : List S41) (hx : ∀ x, x ∈ xs → x.f4.length ≤ maxLen) : ∃ r, scrivenerlaw05_many.f (xs.length + 1) xs = some r ∧ (r = false → xs.length ≤ 600) :=
  many_l0 xs hx xs.length 0 0 (xs.length + 1) (by omega) (by omega) (by omega) (by omega)
/-! ### the law of numbers -/
/-- What came, and what is on its way, was sent. -/
structure Acc (n : NetS) (S C : List S33) (i : Nat) : Prop where
  cnt : ∀ P : S33 → Bool, C.countP P + n.all.countP P ≤ S.countP P
  sl : S.length ≤ i
  cl : C.length ≤ i
theorem Acc.new (m : Int) : Acc ⟨[], 64, m, fun _ => false⟩ [] [] 0 := ⟨fun P => by simp, by simp, by simp⟩
theorem Acc.next {n : NetS} {S C : List S33} {i : Nat} (h : Acc n S C i) : Acc n S C (i + 1) := ⟨h.cnt, Nat.le_succ_of_le h.sl, Nat.le_succ_of_le h.cl⟩
theorem Acc.all {n n' : NetS} {S C : List S33} {i : Nat} (h : Acc n S C i) (e : n'.all = n.all) : Acc n' S C i := ⟨fun P => by rw [e]; exact h.cnt P, h.sl, h.cl⟩
theorem Acc.put {n : NetS} {S C : List S33} {i : Nat} (h : Acc n S C i) {m : S33} (hp : putB n = true) : Acc (putN n m) (S ++ [m]) C (i + 1) := by
  unfold putN
  rw [if_pos hp]
  refine ⟨fun P => ?_, by rw [List.length_append]; exact Nat.succ_le_succ h.sl, Nat.le_succ_of_le h.cl⟩
  have := h.cnt P
  simp only [List.countP_append]
  omega
theorem link_all (n : NetS) (a b : Int) (c : Bool) : (n.link a b c).all = n.all := by
  unfold NetS.link
  split <;> rfl
theorem sendE_eq {n : NetS} {a b : Int} {l : List Int} (h : sendE n a b l = 0) : sendN n a b l = putN n ⟨a, b, l⟩ ∧ putB n = true := by
  unfold sendE at h
  split at h
  · split at h
    · exact absurd h (by decide)
    · rename_i h2
      split at h
      · rename_i h3
        split at h
        · rename_i h4
          exact ⟨by unfold sendN; rw [if_pos ⟨h3, h2⟩], h4⟩
        · exact absurd h (by decide)
      · exact absurd h (by decide)
  · exact absurd h (by decide)
theorem sendE_ne {n : NetS} {a b : Int} {l : List Int} (h : sendE n a b l ≠ 0) : sendN n a b l = n := by
  unfold sendN
  split
  · rename_i hh
    have ht : twoB n.nodes a b = true := by have := hh.1; unfold openB at this; simp at this; exact this.1
    unfold sendE at h
    rw [if_pos ht, if_neg hh.2, if_pos hh.1] at h
    unfold putN
    split
    · rename_i h4
      rw [if_pos h4] at h
      exact absurd rfl h
    · rfl
  · rfl
theorem dblE_eq {n : NetS} {i : Int} (h : dblE n i = 0) : dblN n i = putN n (atM n i) ∧ putB n = true := by
  unfold dblE at h
  split at h
  · rename_i h1
    split at h
    · rename_i h2
      exact ⟨by unfold dblN; rw [if_pos h1], h2⟩
    · exact absurd h (by decide)
  · exact absurd h (by decide)
theorem dblE_ne {n : NetS} {i : Int} (h : dblE n i ≠ 0) : dblN n i = n := by
  unfold dblN
  split
  · rename_i h1
    unfold dblE at h
    rw [if_pos h1] at h
    unfold putN
    split
    · rename_i h4
      rw [if_pos h4] at h
      exact absurd rfl h
    · rfl
  · rfl
theorem dropE_ne {n : NetS} {i : Int} (h : dropE n i ≠ 0) : dropN n i = n := by
  unfold dropN
  split
  · rename_i h1
    unfold dropE at h
    rw [if_pos h1] at h
    exact absurd rfl h
  · rfl
theorem dlvE_ne {n : NetS} {i : Int} (h : dlvE n i ≠ 0) : dlvN n i = n := by
  unfold dlvN
  rw [if_neg h]
theorem count_erase (P : S33 → Bool) : ∀ (xs : List S33) (k : Nat) (hk : k < xs.length), (xs.eraseIdx k).countP P + (if P xs[k] then 1 else 0) = xs.countP P
  | x :: xs, 0, _ => by simp [List.countP_cons]
  | x :: xs, k + 1, hk => by
    have := count_erase P xs k (by simpa using hk)
    simp only [List.eraseIdx_cons_succ, List.countP_cons, List.getElem_cons_succ]
    omega
theorem Acc.drop {n : NetS} {S C : List S33} {i : Nat} (h : Acc n S C i) (j : Int) : Acc (dropN n j) S C (i + 1) := by
  unfold dropN
  split
  · rename_i hh
    obtain ⟨k, rfl, hk⟩ := hasB_spec hh
    refine Acc.next ⟨fun P => ?_, h.sl, h.cl⟩
    have h1 := h.cnt P
    have h2 := count_erase P n.all k hk
    simp only [Int.toNat_natCast]
    omega
  · exact h.next
theorem Acc.dlv {n : NetS} {S C : List S33} {i : Nat} (h : Acc n S C i) {j : Int} (e : dlvE n j = 0) : Acc (dlvN n j) S (C ++ [dlvM n j]) (i + 1) ∧ (dlvN n j).all.length + 1 = n.all.length := by
  have hh : hasB n j = true := by
    unfold dlvE at e
    split at e
    · assumption
    · exact absurd e (by decide)
  obtain ⟨k, rfl, hk⟩ := hasB_spec hh
  have hm : dlvM n k = n.all[k] := by
    unfold dlvM atM
    rw [if_pos e, if_pos hh]
    simp [hk]
  unfold dlvN
  rw [if_pos e, hm]
  simp only [Int.toNat_natCast]
  refine ⟨⟨fun P => ?_, Nat.le_succ_of_le h.sl, by rw [List.length_append]; exact Nat.succ_le_succ h.cl⟩, ?_⟩
  · have h1 := h.cnt P
    have h2 := count_erase P n.all k hk
    simp only [List.countP_append, List.countP_cons, List.countP_nil]
    omega
  · rw [List.length_eraseIdx_of_lt hk]
    omega
theorem Acc.low {n : NetS} {S C : List S33} {i : Nat} (h : Acc n S C i) (P : S33 → Bool) : C.countP P ≤ S.countP P := Nat.le_trans (Nat.le_add_right _ _) (h.cnt P)
/-! ### two rows beside a net -/
theorem St.drewN {w0 W : World} {p : Option Addr} {n : NetS} {Q : Nat → Prop} (h : St w0 W p n Q) (m : Nat) : St w0 (W.drewN m) p n Q := h.move (fun k hk => ⟨.inl hk, h.lt k hk⟩) (pw_below_drewN h.below m) (Nat.le_refl _) (fun _ _ _ _ => rfl)
def Two (w W : World) (p : Option Addr) (n : NetS) (v1 : Value) (L1 : List S33) (v2 : Value) (L2 : List S33) (R : Nat → Prop) : Prop :=
  ∃ q1 q2 : Nat → Prop, Kd.N k33 33 W w.heap.size q1 v1 L1 ∧ Kd.N k33 33 W w.heap.size q2 v2 L2 ∧ (∀ k, q1 k → q2 k → False) ∧ (∀ k, k < w.heap.size → q1 k) ∧ (∀ k, R k → w.heap.size ≤ k ∧ ¬ q1 k ∧ ¬ q2 k) ∧ St w W p n (fun k => q1 k ∨ q2 k ∨ R k)
section
variable {w W W' : World} {p : Option Addr} {n n' : NetS} {v1 v2 : Value} {L1 L2 : List S33} {R R' : Nat → Prop}
theorem Two.new (hS : St w W p n (fun k => k < w.heap.size)) : Two w W p n (.slice none 0 0) [] (.slice none 0 0) [] (fun _ => False) :=
  ⟨fun k => k < w.heap.size, fun _ => False, Kd.N_nil _ _ _ _ _, Kd.N_nil _ _ _ _ _, fun _ _ h => h, fun _ h => h, fun _ h => h.elim, hS.weak (fun k hk => by rcases hk with h | h | h; exact h; exact h.elim; exact h.elim)⟩
theorem Two.good (h : Two w W p n v1 L1 v2 L2 R) : Good n := by obtain ⟨_, _, _, _, _, _, _, hS⟩ := h; exact hS.good
theorem Two.below (h : Two w W p n v1 L1 v2 L2 R) : Below w.heap.size w W := by obtain ⟨_, _, _, _, _, _, _, hS⟩ := h; exact hS.below
theorem Two.weak (h : Two w W p n v1 L1 v2 L2 R) (hr : ∀ k, R' k → R k) : Two w W p n v1 L1 v2 L2 R' := by
  obtain ⟨q1, q2, h1, h2, h3, h4, h5, hS⟩ := h
  exact ⟨q1, q2, h1, h2, h3, h4, fun k hk => h5 k (hr k hk), hS.weak (fun k hk => by rcases hk with h | h | h; exact .inl h; exact .inr (.inl h); exact .inr (.inr (hr k h)))⟩
theorem Two.drew (h : Two w W p n v1 L1 v2 L2 R) : Two w W.drew p n v1 L1 v2 L2 R := by
  obtain ⟨q1, q2, h1, h2, h3, h4, h5, hS⟩ := h
  exact ⟨q1, q2, Kd.N_drew h1, Kd.N_drew h2, h3, h4, h5, hS.drew⟩
theorem Two.alloc (h : Two w W p n v1 L1 v2 L2 R) (o : Obj) : Two w (W.alloc o) p n v1 L1 v2 L2 (fun k => R k ∨ k = W.heap.size) := by
  obtain ⟨q1, q2, h1, h2, h3, h4, h5, hS⟩ := h
  refine ⟨q1, q2, Kd.N_alloc h1 o, Kd.N_alloc h2 o, h3, h4, fun k hk => ?_, (hS.alloc o).weak (fun k hk => ?_)⟩
  · rcases hk with h | rfl
    · exact h5 k h
    · exact ⟨hS.below.size, fun h => Nat.lt_irrefl _ (hS.lt _ (.inl h)), fun h => Nat.lt_irrefl _ (hS.lt _ (.inr (.inl h)))⟩
  · rcases hk with h | h | h | h
    · exact .inl (.inl h)
    · exact .inl (.inr (.inl h))
    · exact .inl (.inr (.inr h))
    · exact .inr h
theorem Two.step (h : Two w W p n v1 L1 v2 L2 R) (hk : ∀ Q, St w W p n Q → St w W' p n' Q ∧ Keeps Q W W') : Two w W' p n' v1 L1 v2 L2 R ∧ Keeps R W W' := by
  obtain ⟨q1, q2, h1, h2, h3, h4, h5, hS⟩ := h
  obtain ⟨hS', hK⟩ := hk _ hS
  exact ⟨⟨q1, q2, Kd.N_step h1 (fun k hk _ => hK.2 k (.inl hk)), Kd.N_step h2 (fun k hk _ => hK.2 k (.inr (.inl hk))), h3, h4, h5, hS'⟩, hK.mono (fun k hk => .inr (.inr hk))⟩
theorem Two.kept {q1 q2 : Nat → Prop} (h1 : Kd.N k33 33 W w.heap.size q1 v1 L1) (h2 : Kd.N k33 33 W w.heap.size q2 v2 L2) (h3 : ∀ k, q1 k → q2 k → False) (h4 : ∀ k, k < w.heap.size → q1 k) (h5 : ∀ k, R k → w.heap.size ≤ k ∧ ¬ q1 k ∧ ¬ q2 k) (hS' : St w W' p n' (fun k => q1 k ∨ q2 k ∨ R k)) (hK : Keeps (fun k => q1 k ∨ q2 k ∨ R k) W W') : Two w W' p n' v1 L1 v2 L2 R ∧ Keeps R W W' :=
  ⟨⟨q1, q2, Kd.N_step h1 (fun k hk _ => hK.2 k (.inl hk)), Kd.N_step h2 (fun k hk _ => hK.2 k (.inr (.inl hk))), h3, h4, h5, hS'⟩, hK.mono (fun k hk => .inr (.inr hk))⟩
theorem Two.len_ (h : Two w W p n v1 L1 v2 L2 R) : Calls Try.prog 11 #[.pointer p] W fun e W' => e = .returned (.int .i64 n.all.length) ∧ W = W' := by
  obtain ⟨_, _, _, _, _, _, _, hS⟩ := h
  exact hS.len_
theorem Two.send_ (h : Two w W p n v1 L1 v2 L2 R) (a b : Int) (A : Option Addr) (c : Nat) (l : List Int) (hC : Kd.C (Kd.int .u8) W A l.length l) (hc : l.length ≤ c) : Calls Try.prog 10 #[.pointer p, .int .i64 a, .int .i64 b, .slice A l.length c] W fun e W' => e = E (sendE n a b l) ∧ Two w W' p (sendN n a b l) v1 L1 v2 L2 R ∧ Keeps R W W' := by
  obtain ⟨q1, q2, h1, h2, h3, h4, h5, hS⟩ := h
  refine (hS.send_ a b A c l hC hc).mono ?_
  rintro e W' ⟨rfl, hS', hK⟩
  exact ⟨rfl, Two.kept h1 h2 h3 h4 h5 hS' hK⟩
theorem Two.cut_ (h : Two w W p n v1 L1 v2 L2 R) (a b : Int) : Calls Try.prog 18 #[.pointer p, .int .i64 a, .int .i64 b] W fun e W' => e = E (linkE n a b) ∧ Two w W' p (n.link a b true) v1 L1 v2 L2 R ∧ Keeps R W W' := by
  obtain ⟨q1, q2, h1, h2, h3, h4, h5, hS⟩ := h
  refine (hS.cut_ a b).mono ?_
  rintro e W' ⟨rfl, hS', hK⟩
  exact ⟨rfl, Two.kept h1 h2 h3 h4 h5 hS' hK⟩
theorem Two.heal_ (h : Two w W p n v1 L1 v2 L2 R) (a b : Int) : Calls Try.prog 19 #[.pointer p, .int .i64 a, .int .i64 b] W fun e W' => e = E (linkE n a b) ∧ Two w W' p (n.link a b false) v1 L1 v2 L2 R ∧ Keeps R W W' := by
  obtain ⟨q1, q2, h1, h2, h3, h4, h5, hS⟩ := h
  refine (hS.heal_ a b).mono ?_
  rintro e W' ⟨rfl, hS', hK⟩
  exact ⟨rfl, Two.kept h1 h2 h3 h4 h5 hS' hK⟩
theorem Two.drop_ (h : Two w W p n v1 L1 v2 L2 R) (i : Int) : Calls Try.prog 15 #[.pointer p, .int .i64 i] W fun e W' => e = E (dropE n i) ∧ Two w W' p (dropN n i) v1 L1 v2 L2 R ∧ Keeps R W W' := by
  obtain ⟨q1, q2, h1, h2, h3, h4, h5, hS⟩ := h
  refine (hS.drop_ i).mono ?_
  rintro e W' ⟨rfl, hS', hK⟩
  exact ⟨rfl, Two.kept h1 h2 h3 h4 h5 hS' hK⟩
theorem Two.dbl_ (h : Two w W p n v1 L1 v2 L2 R) (i : Int) : Calls Try.prog 17 #[.pointer p, .int .i64 i] W fun e W' => e = E (dblE n i) ∧ Two w W' p (dblN n i) v1 L1 v2 L2 R ∧ Keeps R W W' := by
  obtain ⟨q1, q2, h1, h2, h3, h4, h5, hS⟩ := h
  refine (hS.dbl_ i).mono ?_
  rintro e W' ⟨rfl, hS', hK⟩
  exact ⟨rfl, Two.kept h1 h2 h3 h4 h5 hS' hK⟩
/-- A message that came: its bytes, new memory, are of R now. -/
def CameT (w W W' : World) (p : Option Addr) (n : NetS) (v1 : Value) (L1 : List S33) (v2 : Value) (L2 : List S33) (R : Nat → Prop) (A : Option Addr) (c : Nat) (l : List Int) : Prop :=
  ∃ q : Nat → Prop, Kd.F (Kd.int .u8) W' q A l.length l ∧ l.length ≤ c ∧ (∀ k, q k → W.heap.size ≤ k) ∧ Two w W' p n v1 L1 v2 L2 (fun k => R k ∨ q k) ∧ Keeps R W W'
theorem Two.came {q1 q2 : Nat → Prop} (h1 : Kd.N k33 33 W w.heap.size q1 v1 L1) (h2 : Kd.N k33 33 W w.heap.size q2 v2 L2) (h3 : ∀ k, q1 k → q2 k → False) (h4 : ∀ k, k < w.heap.size → q1 k) (h5 : ∀ k, R k → w.heap.size ≤ k ∧ ¬ q1 k ∧ ¬ q2 k) (hS : St w W p n (fun k => q1 k ∨ q2 k ∨ R k)) {vb : Value} {l : List Int} (hc : Came w W W' p n' (fun k => q1 k ∨ q2 k ∨ R k) vb l) :
    ∃ A c, vb = .slice A l.length c ∧ CameT w W W' p n' v1 L1 v2 L2 R A c l := by
  obtain ⟨q, hR, hq, hS', hK⟩ := hc
  obtain ⟨A, c, rfl⟩ := Kd.R_slice hR
  refine ⟨A, c, rfl, q, Kd.R_F hR, (Kd.R_reads' hR).2.1, hq, ⟨q1, q2, Kd.N_step h1 (fun k hk _ => hK.2 k (.inl hk)), Kd.N_step h2 (fun k hk _ => hK.2 k (.inr (.inl hk))), h3, h4, fun k hk => ?_, hS'.weak (fun k hk => ?_)⟩, hK.mono (fun k hk => .inr (.inr hk))⟩
  · rcases hk with h | h
    · exact h5 k h
    · have := hq k h
      exact ⟨Nat.le_trans hS.below.size this, fun h => by have := hS.lt _ (.inl h); omega, fun h => by have := hS.lt _ (.inr (.inl h)); omega⟩
  · rcases hk with h | h | h | h
    · exact .inl (.inl h)
    · exact .inl (.inr (.inl h))
    · exact .inl (.inr (.inr h))
    · exact .inr h
theorem Two.at_ (h : Two w W p n v1 L1 v2 L2 R) (i : Int) : Calls Try.prog 16 #[.pointer p, .int .i64 i] W fun e W' => ∃ A c, e = .returned (.tuple #[.agg #[.int .i64 (atM n i).f0, .int .i64 (atM n i).f1, .slice A (atM n i).f2.length c], .int .i64 (atE n i)]) ∧ CameT w W W' p n v1 L1 v2 L2 R A c (atM n i).f2 := by
  obtain ⟨q1, q2, h1, h2, h3, h4, h5, hS⟩ := h
  refine (hS.at_ i).mono ?_
  rintro e W' ⟨vb, rfl, hc⟩
  obtain ⟨A, c, rfl, h⟩ := Two.came h1 h2 h3 h4 h5 hS hc
  exact ⟨A, c, rfl, h⟩
theorem Two.dlv_ (h : Two w W p n v1 L1 v2 L2 R) (i : Int) : Calls Try.prog 12 #[.pointer p, .int .i64 i] W fun e W' => ∃ A c, e = .returned (.tuple #[.agg #[.int .i64 (dlvM n i).f0, .int .i64 (dlvM n i).f1, .slice A (dlvM n i).f2.length c], .int .i64 (dlvE n i)]) ∧ CameT w W W' p (dlvN n i) v1 L1 v2 L2 R A c (dlvM n i).f2 := by
  obtain ⟨q1, q2, h1, h2, h3, h4, h5, hS⟩ := h
  refine (hS.dlv_ i).mono ?_
  rintro e W' ⟨vb, rfl, hc⟩
  obtain ⟨A, c, rfl, h⟩ := Two.came h1 h2 h3 h4 h5 hS hc
  exact ⟨A, c, rfl, h⟩
end
theorem info33t : (Try.prog.info? 33).map (fun i => (i.zero, i.size, i.bytes)) = some (some (.agg #[.int .i64 0, .int .i64 0, .slice none 0 0]), 3, 40) := by kernel_rfl
theorem msg_FK {W : World} {okp : Nat → Prop} {f t : Int} {Am : Option Addr} {cm : Nat} {l : List Int} (hp : Kd.F (Kd.int .u8) W okp Am l.length l) (hcm : l.length ≤ cm) : Kd.FK k33 W okp ⟨f, t, l⟩ [.int .i64 f, .int .i64 t, .slice Am l.length cm] :=
  fun W' hW => k33_mk W' ⟨f, t, l⟩ hcm (hp W' hW)
/-- append to the first row. -/
theorem Two.app1 {ops : Array Oper} {Q : Exit → Act → World → Prop} {rest : List Oper} {o : Oper} {a : Act} {w W : World} {p : Option Addr} {n : NetS} {v1 v2 : Value} {L1 L2 : List S33} {R : Nat → Prop} (HT : Two w W p n v1 L1 v2 L2 R) (hgd : o.guard = none) (s x : Operand)
    (ho : o.op = .call { callee := .builtin .append, args := #[s, x], argTypes := #[39, 39] }) (f t : Int) (Am : Option Addr) (cm : Nat) (l : List Int) (okp : Nat → Prop) (hs : a.eval s = v1) {b : Nat} (hx : a.eval x = .slice (some ⟨b, 0, none⟩) 1 1) (hbz : b = W.heap.size)
    (hp : Kd.F (Kd.int .u8) W okp Am l.length l) (hcm : l.length ≤ cm) (hokp : ∀ k, okp k → k < w.heap.size ∨ R k) (hl : L1.length ≤ 100000)
    (h : ∀ A' c' w1 (L : List S33), Aside0 (L = L1 ++ [(⟨f, t, l⟩ : S33)]) → Two w w1 p n (.slice A' L.length c') L v2 L2 (fun k => R k ∧ ¬ okp k) → Keeps R W w1 → wpList Try.prog ops Q rest (a.put o.dst (.slice A' L.length c')) w1) :
    wpList Try.prog ops Q (o :: rest) a (W.alloc (.cells #[.int .i64 f, .int .i64 t, .slice Am l.length cm] 33)) := by
  obtain ⟨q1, q2, h1, h2, h3, h4, h5, hS⟩ := HT
  subst hbz
  have hown : ∀ k, v1.ownBlock = some k → q1 k := h1.1
  have hbase := Kd.N_base h1
  refine Kd.N_append k33 (w0 := w) (W := W) w.heap.size hgd s x 39 33 _ 40 ho Try.underlying39 info33t rfl (by decide) (by decide) v1 L1 (⟨f, t, l⟩ : S33) [.int .i64 f, .int .i64 t, .slice Am l.length cm] (fun k => q1 k ∨ okp k ∨ W.heap.size ≤ k) okp hs hx (msg_FK hp hcm) (fun k hk => ⟨.inr (.inl hk), fun e => ?_⟩) (fun k hk => .inr (.inr hk)) (Kd.N_mono h1 (fun k hk => .inl hk)) hS.below hS.below.size (by omega) ?_
  · rcases hokp k hk with h | h
    · have := hbase k e.symm; omega
    · exact (h5 k h).2.1 (hown k e.symm)
  · intro v1' w1 hN hB hg hat
    obtain ⟨A', c', rfl⟩ := Kd.N_slice hN
    have ha : ∀ k, q2 k → ¬ okp k := fun k hk ho => by
      rcases hokp k ho with h | h
      · exact h3 k (h4 k h) hk
      · exact (h5 k h).2.2 hk
    refine h A' c' w1 _ ⟨rfl⟩ ⟨fun k => (q1 k ∨ okp k ∨ W.heap.size ≤ k) ∧ k < w1.heap.size, q2, Kd.N_bound hN, Kd.N_step h2 (fun k hk hlt => hg.block k hlt (fun e => h3 k (hown k e.symm) hk)), fun k hk hk2 => ?_, fun k hk => ⟨.inl (h4 k hk), Nat.lt_of_lt_of_le hk hB.size⟩, fun k hk => ⟨(h5 k hk.1).1, fun hq => ?_, (h5 k hk.1).2.2⟩, ?_⟩ ⟨hg.size, fun k hk => hg.block k (hS.lt k (.inr (.inr hk))) (fun e => (h5 k hk).2.1 (hown k e.symm))⟩
    · rcases hk.1 with h | h | h
      · exact h3 k h hk2
      · exact ha k hk2 h
      · have := hS.lt k (.inr (.inl hk2)); omega
    · rcases hq.1 with h | h | h
      · exact (h5 k hk.1).2.1 h
      · exact hk.2 h
      · have := hS.lt k (.inr (.inr hk.1)); omega
    · refine hS.move (fun k hk => ?_) hB hg.size (fun k _ hk hn => hg.block k hk (fun e => hn (.inl (hown k e.symm))))
      have hsz := hg.size
      rcases hk with h | h | h
      · refine ⟨?_, h.2⟩
        rcases h.1 with h | h | h
        · exact .inl (.inl h)
        · rcases hokp k h with h | h
          · exact .inl (.inl (h4 k h))
          · exact .inl (.inr (.inr h))
        · exact .inr h
      · exact ⟨.inl (.inr (.inl h)), by have := hS.lt k (.inr (.inl h)); omega⟩
      · exact ⟨.inl (.inr (.inr h.1)), by have := hS.lt k (.inr (.inr h.1)); omega⟩
/-- append to the second row. -/
theorem Two.app2 {ops : Array Oper} {Q : Exit → Act → World → Prop} {rest : List Oper} {o : Oper} {a : Act} {w W : World} {p : Option Addr} {n : NetS} {v1 v2 : Value} {L1 L2 : List S33} {R : Nat → Prop} (HT : Two w W p n v1 L1 v2 L2 R) (hgd : o.guard = none) (s x : Operand)
    (ho : o.op = .call { callee := .builtin .append, args := #[s, x], argTypes := #[39, 39] }) (f t : Int) (Am : Option Addr) (cm : Nat) (l : List Int) (okp : Nat → Prop) (hs : a.eval s = v2) {b : Nat} (hx : a.eval x = .slice (some ⟨b, 0, none⟩) 1 1) (hbz : b = W.heap.size)
    (hp : Kd.F (Kd.int .u8) W okp Am l.length l) (hcm : l.length ≤ cm) (hokp : ∀ k, okp k → R k) (hl : L2.length ≤ 100000)
    (h : ∀ A' c' w1 (L : List S33), Aside0 (L = L2 ++ [(⟨f, t, l⟩ : S33)]) → Two w w1 p n v1 L1 (.slice A' L.length c') L (fun k => R k ∧ ¬ okp k) → Keeps R W w1 → wpList Try.prog ops Q rest (a.put o.dst (.slice A' L.length c')) w1) :
    wpList Try.prog ops Q (o :: rest) a (W.alloc (.cells #[.int .i64 f, .int .i64 t, .slice Am l.length cm] 33)) := by
  obtain ⟨q1, q2, h1, h2, h3, h4, h5, hS⟩ := HT
  subst hbz
  have hown : ∀ k, v2.ownBlock = some k → q2 k := h2.1
  have hbase := Kd.N_base h2
  refine Kd.N_append k33 (w0 := w) (W := W) w.heap.size hgd s x 39 33 _ 40 ho Try.underlying39 info33t rfl (by decide) (by decide) v2 L2 (⟨f, t, l⟩ : S33) [.int .i64 f, .int .i64 t, .slice Am l.length cm] (fun k => q2 k ∨ okp k ∨ W.heap.size ≤ k) okp hs hx (msg_FK hp hcm) (fun k hk => ⟨.inr (.inl hk), fun e => ?_⟩) (fun k hk => .inr (.inr hk)) (Kd.N_mono h2 (fun k hk => .inl hk)) hS.below hS.below.size (by omega) ?_
  · exact (h5 k (hokp k hk)).2.2 (hown k e.symm)
  · intro v2' w1 hN hB hg hat
    obtain ⟨A', c', rfl⟩ := Kd.N_slice hN
    have ha : ∀ k, q1 k → ¬ okp k := fun k hk ho => (h5 k (hokp k ho)).2.1 hk
    refine h A' c' w1 _ ⟨rfl⟩ ⟨q1, fun k => (q2 k ∨ okp k ∨ W.heap.size ≤ k) ∧ k < w1.heap.size, Kd.N_step h1 (fun k hk hlt => hg.block k hlt (fun e => h3 k hk (hown k e.symm))), Kd.N_bound hN, fun k hk2 hk => ?_, h4, fun k hk => ⟨(h5 k hk.1).1, (h5 k hk.1).2.1, fun hq => ?_⟩, ?_⟩ ⟨hg.size, fun k hk => hg.block k (hS.lt k (.inr (.inr hk))) (fun e => (h5 k hk).2.2 (hown k e.symm))⟩
    · rcases hk.1 with h | h | h
      · exact h3 k hk2 h
      · exact ha k hk2 h
      · have := hS.lt k (.inl hk2); omega
    · rcases hq.1 with h | h | h
      · exact (h5 k hk.1).2.2 h
      · exact hk.2 h
      · have := hS.lt k (.inr (.inr hk.1)); omega
    · refine hS.move (fun k hk => ?_) hB hg.size (fun k _ hk hn => hg.block k hk (fun e => hn (.inr (.inl (hown k e.symm)))))
      have hsz := hg.size
      rcases hk with h | h | h
      · exact ⟨.inl (.inl h), by have := hS.lt k (.inl h); omega⟩
      · refine ⟨?_, h.2⟩
        rcases h.1 with h | h | h
        · exact .inl (.inr (.inl h))
        · exact .inl (.inr (.inr (hokp k h)))
        · exact .inr h
      · exact ⟨.inl (.inr (.inr h.1)), by have := hS.lt k (.inr (.inr h.1)); omega⟩
theorem Two.past {w W W' : World} {p : Option Addr} {n : NetS} {v1 v2 : Value} {L1 L2 : List S33} {R : Nat → Prop} (h : Two w W p n v1 L1 v2 L2 R) (hb : Below W.heap.size W W') : Two w W' p n v1 L1 v2 L2 R := by
  obtain ⟨q1, q2, h1, h2, h3, h4, h5, hS⟩ := h
  exact ⟨q1, q2, Kd.N_below h1 hb, Kd.N_below h2 hb, h3, h4, h5, hS.move (fun k hk => ⟨.inl hk, Nat.lt_of_lt_of_le (hS.lt k hk) hb.size⟩) (below_then hS.below hS.below.size hb) hb.size (fun k _ hk _ => hb.block k hk)⟩
theorem Two.rows {w W : World} {p : Option Addr} {n : NetS} {A1 A2 : Option Addr} {c1 c2 m1 m2 : Nat} {L1 L2 : List S33} {R : Nat → Prop} (h : Two w W p n (.slice A1 m1 c1) L1 (.slice A2 m2 c2) L2 R) : (Kd.C k33 W A1 L1.length L1 ∧ L1.length ≤ c1) ∧ Kd.C k33 W A2 L2.length L2 ∧ L2.length ≤ c2 := by
  obtain ⟨_, _, h1, h2, _⟩ := h
  have a := Kd.N_reads' h1
  have b := Kd.N_reads' h2
  exact ⟨⟨a.2.2, by have := a.1; have := a.2.1; omega⟩, b.2.2, by have := b.1; have := b.2.1; omega⟩
end Go.Proofs.Ytnaefndclalepaa.Net
