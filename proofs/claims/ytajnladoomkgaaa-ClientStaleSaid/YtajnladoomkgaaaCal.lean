/- Start, Take and Tick, whole. -/
import Derived.Test.YtajnladoomkgaaaStr
import Derived.Test.YtajnladoomkgaaaSto
import Derived.Test.YtajnladoomkgaaaTak
import Derived.Test.YtajnladoomkgaaaTar
import Derived.Test.YtajnladoomkgaaaTae
import Derived.Test.YtajnladoomkgaaaTid
namespace Go.Proofs.Ytajnladoomkgaaa.Cli
set_option linter.unusedVariables false
set_option linter.unusedSimpArgs false
open RowOf Go.RowKit Go.Proofs.YtajnladoomkgaaaW.PrintWords Go.Proofs.YtajnladoomkgaaaW.PrintLast Go.Proofs.YtajnladoomkgaaaW.PrintMore Go.Proofs.Ytajnladoomkgaaa.XC
attribute [local go_sem] max2_int min2_int max_two min_two

theorem start_c (c : CliS) (A1 : Option Addr) (k1 : Nat) (A2 : Option Addr) (k2 : Nat) (now : Int) (x : S27) (A : Option Addr) (k : Nat) (w : World) (hc : CliIn w c A1 k1 A2 k2) (h3 : Kd.C (Kd.int .u8) w A x.f8.length x.f8) (hl3 : x.f8.length ≤ k) (hb1 : c.Br.length < 1000000) (hb2 : c.Call.f8.length ≤ 140737488351232) (hb3 : x.f8.length ≤ 140737488351232) (hN : 0 ≤ c.N ∧ c.N < 18446744073709551616) :
    Calls Try.prog 8 #[.agg (rL_ c A1 k1 A2 k2), .int .u64 now, .agg (rK_ x A k)] w (StartPost w (startC c now x)) := by
  by_cases hm : mayB (begun c x) = true
  · by_cases hb : c.Busy = 1
    · exact start_busy c A1 k1 A2 k2 now x A k w hc h3 hl3 hb1 hb2 hb3 hN hm hb
    · by_cases hf : 4611686018427387903 ≤ c.N
      · exact start_full c A1 k1 A2 k2 now x A k w hc h3 hl3 hb1 hb2 hb3 hN hm hb hf
      · exact start_ok c A1 k1 A2 k2 now x A k w hc h3 hl3 hb1 hb2 hb3 hN hm hb (by omega)
  · exact start_arg c A1 k1 A2 k2 now x A k w hc h3 hl3 hb1 hb2 hb3 hN (by simpa using hm)
theorem take_c (c : CliS) (A1 : Option Addr) (k1 : Nat) (A2 : Option Addr) (k2 : Nat) (now : Int) (r : S36) (A : Option Addr) (k : Nat) (w : World) (hc : CliIn w c A1 k1 A2 k2) (h3 : Kd.C (Kd.int .u8) w A r.f8.length r.f8) (hl3 : r.f8.length ≤ k) (hb1 : c.Br.length < 1000000) (hb2 : c.Call.f8.length ≤ 140737488351232) (hb3 : r.f8.length ≤ 140737488351232) :
    Calls Try.prog 10 #[.agg (rL_ c A1 k1 A2 k2), .int .u64 now, .agg (rR_ r A k)] w (TakePost w (takeC c now r)) := by
  by_cases hm : mineB c r = true
  · by_cases h1 : r.f3 = 1
    · by_cases hi : 0 ≤ idxI c.Br r.f5
      · by_cases he : idxI c.Br r.f5 = c.At
        · exact take_same1 c A1 k1 A2 k2 now r A k w hc h3 hl3 hb1 hb2 hb3 hm h1 ⟨hi, he⟩
        · exact take_ask1 c A1 k1 A2 k2 now r A k w hc h3 hl3 hb1 hb2 hb3 hm h1 ⟨hi, he⟩
      · exact take_none1 c A1 k1 A2 k2 now r A k w hc h3 hl3 hb1 hb2 hb3 hm h1 (by omega)
    · by_cases h2 : r.f3 = 2
      · by_cases hi : 0 ≤ idxI c.Br r.f5
        · by_cases he : idxI c.Br r.f5 = c.At
          · exact take_same2 c A1 k1 A2 k2 now r A k w hc h3 hl3 hb1 hb2 hb3 hm h2 ⟨hi, he⟩
          · exact take_ask2 c A1 k1 A2 k2 now r A k w hc h3 hl3 hb1 hb2 hb3 hm h2 ⟨hi, he⟩
        · exact take_none2 c A1 k1 A2 k2 now r A k w hc h3 hl3 hb1 hb2 hb3 hm h2 (by omega)
      · exact take_end c A1 k1 A2 k2 now r A k w hc h3 hl3 hb1 hb2 hb3 hm h1 h2
  · exact take_no c A1 k1 A2 k2 now r A k w hc h3 hl3 hb1 hb2 hb3 (by simpa using hm)
end Go.Proofs.Ytajnladoomkgaaa.Cli
