/- Plain laws: thin markets, and the fault of a market. -/
import Derived.Test.YtgjifkegfbpjkaaXCkPlain
section
namespace Go.Proofs.Ytgjifkegfbpjkaa.Q
set_option linter.unusedVariables false
set_option linter.unusedSimpArgs false
open Go.RowKit Go.Proofs.YtgjifkegfbpjkaaW.PrintWords Go.Proofs.YtgjifkegfbpjkaaW.PrintLast Go.Proofs.YtgjifkegfbpjkaaW.PrintMore
theorem thin_yes (ex : Int) (hs : List S88) (cs : List S101) (t : List Int) (h1 : hs.length ≤ 9) (h2 : cs.length ≤ 11) (h3 : t.length ≤ 9) : contangolaw11_Thin.f ex hs cs t = some true := by
  unfold contangolaw11_Thin.f; rw [if_pos (by omega), if_pos (by omega), decide_eq_true (by omega)]
theorem thin_no (ex : Int) (hs : List S88) (cs : List S101) (t : List Int) (h : ¬ (hs.length ≤ 9 ∧ cs.length ≤ 11 ∧ t.length ≤ 9)) : contangolaw11_Thin.f ex hs cs t = some false := by
  unfold contangolaw11_Thin.f
  by_cases h1 : (hs.length : Int) ≤ 9
  · rw [if_pos h1]
    by_cases h2 : (cs.length : Int) ≤ 11
    · rw [if_pos h2, decide_eq_false (by omega)]
    · rw [if_neg h2]
  · rw [if_neg h1]
theorem lfault_f (k : Nat) (ex : Int) (hs : List S88) (cs : List S101) (hh : hs.length ≤ 1000) (hc : cs.length ≤ 1000) (hk : hs.length + cs.length + 5 < k) : contangolaw11_fault.f k ex hs cs = some (ck ex (hs.map cvH) (cs.map cvC)) := by
  unfold contangolaw11_fault.f
  rw [fault_f k ex hs cs hh hc hk]; rfl
end Go.Proofs.Ytgjifkegfbpjkaa.Q
end
