/- BallotHighest: for every input that can be read the law returns true, and each argument reads behind the call as it read before. No condition. -/
import Derived.Test.YthaoliipnoimaaaRows
import Derived.Test.YthaoliipnoimaaaXH7
import Derived.Test.YthaoliipnoimaaaOpen
import Derived.Test.YthaoliipnoimaaaPureBallotHighest
import Derived.WalkKit
import Derived.ProofKit
import Derived.OpenShut
import Derived.ShutString
import Derived.ChangeOld
import Derived.Below
import Derived.SizedLaws
import Derived.Lib.SmallJoins
namespace Go.Proofs.Ythaoliipnoimaaa.ballotHighest
open Go.ChangeShapes Go.WideShapes Go.ChangeAt Go.RowKit Go.Joins Go.Proofs.YthaoliipnoimaaaW.PrintWords Go.Proofs.Ythaoliipnoimaaa.Open Go.Proofs.Ythaoliipnoimaaa.XH
open Go.ChangeMaps (open_string shut_string)
set_option linter.unusedVariables false
set_option linter.unusedSimpArgs false
theorem own : ownKnob Try.prog.godebug = none := by kernel_rfl
theorem laidOut : laidOutB Try.prog = true := by kernel_rfl
theorem op3 : Opens Try.prog 3 (Kd.int .i64) (fun x => (Lit.int .i64 x).wf = true) := Opens.int Try.underlying3 (by kernel_rfl)
theorem op22 : Opens Try.prog 22 (Kd.int .u64) (fun x => (Lit.int .u64 x).wf = true) := Opens.int Try.underlying22 (by kernel_rfl)
theorem op27 : Opens Try.prog 27 k27 (fun x => ((Lit.int .u64 x.f0).wf = true ∧ ((Lit.int .i64 x.f1).wf = true ∧ (Lit.int .u64 x.f2).wf = true))) := Opens.iso (fun x : S27 => (x.f0, x.f1, x.f2)) (fun p => ⟨p.1, p.2.1, p.2.2⟩) (fun _ => rfl) (Opens.struct Try.underlying27 (by kernel_rfl) (OpensL.cons rfl op22 (OpensL.cons rfl op3 (OpensL.one rfl op22))))
theorem op5 : Opens Try.prog 5 (Kd.int .u8) (fun x => (Lit.int .u8 x).wf = true) := Opens.int Try.underlying5 (by kernel_rfl)
theorem op49 : Opens Try.prog 49 (Kd.slice 5 (Kd.int .u8)) (fun x => (x.length ≤ maxLen ∧ ∀ x0 ∈ x, (Lit.int .u8 x0).wf = true)) := Opens.slice Try.underlying49 (by kernel_rfl) op5
theorem op51 : Opens Try.prog 51 k51 (fun x => ((Lit.int .i64 x.f0).wf = true ∧ (((Lit.int .u64 x.f1.f0).wf = true ∧ ((Lit.int .i64 x.f1.f1).wf = true ∧ (Lit.int .u64 x.f1.f2).wf = true)) ∧ (((Lit.int .u64 x.f2.f0).wf = true ∧ ((Lit.int .i64 x.f2.f1).wf = true ∧ (Lit.int .u64 x.f2.f2).wf = true)) ∧ ((x.f3.length ≤ maxLen ∧ ∀ x0 ∈ x.f3, (Lit.int .u8 x0).wf = true)))))) := Opens.iso (fun x : S51 => (x.f0, x.f1, x.f2, x.f3)) (fun p => ⟨p.1, p.2.1, p.2.2.1, p.2.2.2⟩) (fun _ => rfl) (Opens.struct Try.underlying51 (by kernel_rfl) (OpensL.cons rfl op3 (OpensL.cons rfl op27 (OpensL.cons rfl op27 (OpensL.one rfl op49)))))
theorem op48 : Opens Try.prog 48 (Kd.slice 51 k51) (fun x => (x.length ≤ maxLen ∧ ∀ x0 ∈ x, ((Lit.int .i64 x0.f0).wf = true ∧ (((Lit.int .u64 x0.f1.f0).wf = true ∧ ((Lit.int .i64 x0.f1.f1).wf = true ∧ (Lit.int .u64 x0.f1.f2).wf = true)) ∧ (((Lit.int .u64 x0.f2.f0).wf = true ∧ ((Lit.int .i64 x0.f2.f1).wf = true ∧ (Lit.int .u64 x0.f2.f2).wf = true)) ∧ ((x0.f3.length ≤ maxLen ∧ ∀ x1 ∈ x0.f3, (Lit.int .u8 x1).wf = true))))))) := Opens.slice Try.underlying48 (by kernel_rfl) op51
set_option maxRecDepth 100000 in
theorem lifted (os : Os) (started : os.Started) (H : Type) (enc : TypeId × Value → H) :
    ReturnsInHanded {} Try.checked os 9 .any (Rows.ballotHighestSpec.pre6 enc Try.prog Try.f9 Rows.ballotHighestRow.domain false) (Rows.ballotHighestSpec.post enc Try.prog Try.f9 false true false false) := by
  refine returnsInHanded_of_change_sized (C := Try.checked) own started (by kernel_rfl) Try.func9
    (ChangeSpec.witness6 (enc := enc) (C := Try.checked) false ⟨#[], #[.slice none 0 0], []⟩ 8 (by kernel_rfl) (by kernel_rfl) (by kernel_rfl) (by kernel_rfl)) ?_
  intro W base args ds gs before hval0 hW hcnd hsz0 _
  have hsz : (DataW.weightsEach Try.prog (Try.f9.params.toList ++ Rows.ballotHighestSpec.plain.varTypes Try.prog) (ds ++ gs)).all (· ≤ reachBytes) = true := hsz0
  have hval : ∀ (j : Nat) t v, Try.f9.params[j]? = some t → args[j]? = some v → Value.okWide Try.prog W .any base t v := hval0
  have hW' := hW
  obtain ⟨p, q, hA0, hV, rfl, hfz, hnd⟩ := hW
  have hA : DataW.TrodAll enc Try.prog W 0 (fun _ => true) true Try.f9.params.toList args.toList ds p := hA0
  rw [Try.params9] at hA hval hsz
  obtain ⟨v0, vs0, d0, ds0, p0, q0, hargs, rfl, rfl, h0, r0⟩ := trodAll_cons hA
  obtain ⟨rfl, rfl, rfl⟩ := trodAll_nil r0
  obtain rfl : args = #[v0] := by cases args; simp_all
  obtain ⟨rfl, rfl⟩ := trodVars_none hV
  have k0 := h0
  have lt0 : ∀ x ∈ p0, x.block < W.heap.size := by obtain ⟨m, hm⟩ := k0; exact DataW.trod_lt m _ _ _ hm
  obtain ⟨a0, len0, cap0, rfl⟩ := okWide_slice Try.underlying48 (hval 0 48 v0 rfl rfl)
  obtain ⟨l0, hx0, g0⟩ : ∃ l, ((Kd.slice 51 k51)).K W l [.slice a0 len0 cap0] ∧ (l.length ≤ maxLen ∧ ∀ x0 ∈ l, ((Lit.int .i64 x0.f0).wf = true ∧ (((Lit.int .u64 x0.f1.f0).wf = true ∧ ((Lit.int .i64 x0.f1.f1).wf = true ∧ (Lit.int .u64 x0.f1.f2).wf = true)) ∧ (((Lit.int .u64 x0.f2.f0).wf = true ∧ ((Lit.int .i64 x0.f2.f1).wf = true ∧ (Lit.int .u64 x0.f2.f2).wf = true)) ∧ ((x0.f3.length ≤ maxLen ∧ ∀ x1 ∈ x0.f3, (Lit.int .u8 x1).wf = true)))))) := by obtain ⟨fuel, hf⟩ := h0; exact op48.get hf
  obtain ⟨A0, c0, e0, hc0, hr0⟩ := hx0
  obtain ⟨rfl, rfl, rfl⟩ : a0 = A0 ∧ len0 = l0.length ∧ cap0 = c0 := by injection e0 with e _; injection e with e1 e2 e3; exact ⟨e1, e2, e3⟩
  obtain ⟨k, h⟩ := High.BallotHighestP l0 g0
  refine (scrivenerlaw06_BallotHighest.calls k (fun k_ => k_ < W.heap.size) _ _ l0 true W ⟨_, _, rfl, hc0, Kd.C_F (show Kd.Heap k51 from Kd.heap_iso _ (Kd.heap_pair (Kd.heap_int .i64) (Kd.heap_pair (show Kd.Heap k27 from Kd.heap_iso _ (Kd.heap_pair (Kd.heap_int .u64) (Kd.heap_pair (Kd.heap_int .i64) (Kd.heap_int .u64)))) (Kd.heap_pair (show Kd.Heap k27 from Kd.heap_iso _ (Kd.heap_pair (Kd.heap_int .u64) (Kd.heap_pair (Kd.heap_int .i64) (Kd.heap_int .u64)))) (Kd.heap_slice 5 (Kd.heap_int .u8)))))) hr0⟩ h).mono ?_
  rintro e W' ⟨he, bel⟩
  subst he
  exact ⟨_, rfl, _, _, _, [], _, [], hW', trodAll_mk1 (shut_bool Try.underlying4 _), (trodAll_cons_mk (Below.trod laidOut (by kernel_rfl) (of_decide_eq_true (by kernel_rfl)) k0 bel lt0) trodAll_mk0), rfl, bel.frame _, fun h => by cases h⟩
theorem over : Rows.ballotHighestRow.holds Try.pinned (OpenSpec.ofChange Rows.ballotHighestSpec) :=
  OpenClaim.holds_of_wide 9 Try.f9 rfl rfl rfl rfl rfl rfl rfl ⟨rfl, rfl, rfl, rfl, rfl⟩ rfl rfl rfl rfl rfl (by kernel_rfl) Try.func9 (by kernel_rfl)
    (of_decide_eq_true (by kernel_rfl)) (by unfold Func.isWrapper; first | (rw [if_pos (by decide +kernel)]; kernel_rfl) | (rw [if_neg (by decide +kernel)]; exact ⟨rfl, rfl⟩))
    (fun os started H enc _ => lifted os started H enc)
theorem proved : Rows.BallotHighestSaid := over
#print axioms proved
end Go.Proofs.Ythaoliipnoimaaa.ballotHighest
namespace Go.Proofs.Ythaoliipnoimaaa
/-- The row, under a short name, for the claim. -/
theorem ballotHighest_holds : Rows.BallotHighestSaid := ballotHighest.proved
end Go.Proofs.Ythaoliipnoimaaa
