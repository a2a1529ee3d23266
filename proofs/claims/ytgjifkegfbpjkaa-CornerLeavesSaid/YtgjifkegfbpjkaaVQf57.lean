/- Walks of functions of the seat, by a program of this session's over the kit's print: each contract says what a call comes to. -/
import Derived.Test.YtgjifkegfbpjkaaVBase
section
namespace Go.Proofs.Ytgjifkegfbpjkaa.Q
open Go.RowKit Go.Proofs.YtgjifkegfbpjkaaW.PrintWords Go.Proofs.YtgjifkegfbpjkaaW.PrintLast Go.Proofs.YtgjifkegfbpjkaaW.PrintMore
attribute [local go_sem] max2_int min2_int max_two min_two max_three min_three max_four min_four
set_option linter.unusedVariables false
set_option linter.unusedSimpArgs false
def contangoref11_Without.l0 : Nat → Int → List Int → Int → Int → List (S88) → List (S101) → Int → List (S88) → List (S101) → Option (Int × (List (S88)) × (List (S101)) × List Int)
  | 0, _, _, _, _, _, _, _, _, _ => none
  | k + 1, x1, x7, x8, x1293000, x1293001, x1293002, x1295000, x1295001, x1295002 => if x8 < (x1293001.length : Int) then (if 0 ≤ x8 then (if 0 ≤ (IntKind.u64.wrap (x8)) then (if (Int.tmod (shr .i64 x1 (IntKind.u64.wrap (x8))) 2) = 1 then (if x7.length < 17592186044416 then (if x1295001.length < 4398046511104 then (contangoref11_Without.l0 k x1 (x7 ++ [x8]) (wrap64 (x8 + 1)) x1293000 x1293001 x1293002 x1295000 (x1295001 ++ [(⟨(⟨0, x1293000⟩ : S53), (rd_T88 x1293001 x8).f1, (rd_T88 x1293001 x8).f2⟩ : S88)]) x1295002) else (none)) else (none)) else (if x1295001.length < 4398046511104 then (contangoref11_Without.l0 k x1 x7 (wrap64 (x8 + 1)) x1293000 x1293001 x1293002 x1295000 (x1295001 ++ [(⟨(⟨(rd_T88 x1293001 x8).f0.f0, (rd_T88 x1293001 x8).f0.f1⟩ : S53), (rd_T88 x1293001 x8).f1, (rd_T88 x1293001 x8).f2⟩ : S88)]) x1295002) else (none))) else (none)) else (none)) else (some (x1295000, x1295001, x1295002, x7))
def contangoref11_Without.f (k : Nat) (a0_0 : Int) (l0_1 : List (S88)) (l0_2 : List (S101)) (a1 : Int) : Option (Int × (List (S88)) × (List (S101)) × List Int) := contangoref11_Without.l0 k a1 ([] : List Int) 0 a0_0 l0_1 l0_2 a0_0 ([] : List (S88)) l0_2
theorem contangoref11_Without.mono_l : ∀ k, (∀ y0 y1 y2 y3 y4 y5 y6 y7 y8, LeO (contangoref11_Without.l0 k y0 y1 y2 y3 y4 y5 y6 y7 y8) (contangoref11_Without.l0 (k + 1) y0 y1 y2 y3 y4 y5 y6 y7 y8))
  | 0 => fun _ _ _ _ _ _ _ _ _ r h => by simp [contangoref11_Without.l0] at h
  | k + 1 => by
    have ih0 := contangoref11_Without.mono_l k
    · intro y0 y1 y2 y3 y4 y5 y6 y7 y8
      unfold contangoref11_Without.l0
      repeat' first
      | (with_reducible exact ih0 _ _ _ _ _ _ _ _ _)
      | (with_reducible exact LeO.refl _)
      | (with_reducible exact LeO.none _)
      | (with_reducible refine LeO.ite ?_ ?_)
      | (with_reducible refine LeO.bind ?_ (fun _ => ?_))
      | exact ih0 _ _ _ _ _ _ _ _ _
      | exact LeO.none _
      | refine LeO.ite ?_ ?_
      | refine LeO.bind ?_ (fun _ => ?_)
theorem contangoref11_Without.mono : ∀ a0 a1 a2 a3 k, LeO (contangoref11_Without.f k a0 a1 a2 a3) (contangoref11_Without.f (k + 1) a0 a1 a2 a3) := by
  intro a0 a1 a2 a3 k
  have ih0 := contangoref11_Without.mono_l k
  unfold contangoref11_Without.f
  repeat' first
      | (with_reducible exact ih0 _ _ _ _ _ _ _ _ _)
      | (with_reducible exact LeO.refl _)
      | (with_reducible exact LeO.none _)
      | (with_reducible refine LeO.ite ?_ ?_)
      | (with_reducible refine LeO.bind ?_ (fun _ => ?_))
      | exact ih0 _ _ _ _ _ _ _ _ _
      | exact LeO.none _
      | refine LeO.ite ?_ ?_
      | refine LeO.bind ?_ (fun _ => ?_)
end Go.Proofs.Ytgjifkegfbpjkaa.Q
end
