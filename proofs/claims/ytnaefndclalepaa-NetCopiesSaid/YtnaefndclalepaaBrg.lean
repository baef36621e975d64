/- A region of a round of a loop over a function: its walk is the one outside. -/
import Derived.Test.YtnaefndclalepaaStd
import Derived.Test.YtnaefndclalepaaFind
import Derived.RegionIn
namespace Go.Proofs.Ytnaefndclalepaa.Net
set_option linter.unusedVariables false
set_option linter.unusedSimpArgs false
open Go.RowKit Go.Shelf Go.Proofs.YtnaefndclalepaaW.PrintWords Go.Proofs.YtnaefndclalepaaW.PrintLast
section
variable {l n : Nat} {P : Program} {ops : Array Oper}
theorem operIn_of {o : Oper} {a : Act} {w : World} {K : Act → World → Prop} {Q : Exit → Act → World → Prop} (hd : ∀ c, o.op ≠ .defer c) (h : Oper.wp P o a w K Q) : Oper.wpIn (Fence.wide.inRound l) n P o a w K Q := by
  refine ⟨fun _ _ => trivial, ?_⟩
  rw [Oper.semAt_eq _ _ _ hd]
  unfold Oper.wp at h
  revert h
  generalize (execOp a.eval o).run P w = r
  intro h
  cases r with
  | ok v w' =>
    cases v with
    | value v => exact h
    | skip => exact h
    | defer d => exact h
    | enter f args => exact ⟨(fun h2 => by cases h2), CallsIn.inRound l (callsIn_wide.2 h)⟩
    | row r args => exact ⟨(fun h2 => by cases h2), fun c cs _ => by obtain ⟨v, w2, h1, h2⟩ := h c cs; exact ⟨v, w2, h1, stepsIn_wide.2 h2⟩⟩
    | _ => exact h.elim
  | halt x w' =>
    cases x
    case panic => exact h
    all_goals exact h.elim
/-- Only the way on. -/
def OnlyOn (Kc : Act → World → Prop) (e : Exit) (a : Act) (w : World) : Prop := e = .normal ∧ Kc a w
theorem anyIn_of {md : Region.Mode} {Kc : Act → World → Prop} (hd : ∀ (i : Nat) (o : Oper), ops[i]? = some o → ∀ c, o.op ≠ .defer c) : ∀ (fuel : Nat) (listed : Array Bool) (a : Act) (w : World), wpAny P md ops (OnlyOn Kc) fuel listed a w → wpAnyIn (Fence.wide.inRound l) n P md ops (OnlyOn Kc) fuel listed a w
  | 0, _, _, _, h => h
  | fuel + 1, listed, a, w, h => ⟨h.1, fun i hi => by
    have h1 := h.2 i hi
    unfold wpOp at h1
    unfold wpOpIn
    cases ho : ops[i]? with
    | none =>
      rw [ho] at h1
      exact anyIn_of hd fuel _ _ _ h1
    | some o =>
      rw [ho] at h1
      dsimp only at h1 ⊢
      by_cases hw : Region.wanted o (yielded ops a.tmps) = true
      · rw [if_pos hw] at h1 ⊢
        rcases h1 with h1 | ⟨_, a2, w2, h2, _⟩
        · exact operIn_of (hd i o ho) (Oper.wp_mono (fun a' w' h' => anyIn_of hd fuel _ _ _ h') h1)
        · cases h2
      · rw [if_neg hw] at h1 ⊢
        exact ⟨fun _ _ => trivial, anyIn_of hd fuel _ _ _ h1⟩⟩
def noDefer (o : Oper) : Bool := match o.op with | .defer _ => false | _ => true
theorem noDefer_spec {o : Oper} (h : noDefer o = true) : ∀ c, o.op ≠ .defer c := fun c e => by
  unfold noDefer at h
  rw [e] at h
  cases h
/-- The walk of a region begins (as start_ does outside). -/
theorem startIn_ {Q : Exit → Act → World → Prop} {S : World → Prop} {ds : List Nat} {id m : Nat} {a : Act} {w : World} (l0 : Array Bool) (hm : P.follows .mixedOrders = true) (hn : ops.size = m) (hl : Array.replicate m false = l0) (hS : S w.drew) (hd : ops.all noDefer = true)
    (h : S w.drew → wpAnyLast P .any ops (OnlyOn (Q .normal)) S ds m l0 a w.drew) : (Code.region id ops true).wpIn (Fence.wide.inRound l) n P Q a w := by
  subst hn
  subst hl
  refine Code.wpIn_mono (Q := OnlyOn (Q .normal)) (fun e a w h => by obtain ⟨rfl, h⟩ := h; exact h) ?_
  refine wpIn_region_any hm (anyIn_of (fun i o ho => noDefer_spec ?_) _ _ _ _ (wpAny_of_last _ _ _ _ (h hS)))
  obtain ⟨hi, rfl⟩ := Array.getElem?_eq_some_iff.1 ho
  exact Array.all_eq_true.1 hd i hi
end
end Go.Proofs.Ytnaefndclalepaa.Net
