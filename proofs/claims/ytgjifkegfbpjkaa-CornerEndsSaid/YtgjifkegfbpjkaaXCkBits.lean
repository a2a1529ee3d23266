/- Plain laws: sets as bits, and whether a market has a truth. -/
import Derived.Test.YtgjifkegfbpjkaaXCkSets
import Derived.Test.YtgjifkegfbpjkaaXCkLv
import Derived.Test.YtgjifkegfbpjkaaXQf37
import Derived.Test.YtgjifkegfbpjkaaXQf56
section
namespace Go.Proofs.Ytgjifkegfbpjkaa.Q
set_option linter.unusedVariables false
set_option linter.unusedSimpArgs false
open Go.RowKit Go.Proofs.YtgjifkegfbpjkaaW.PrintWords Go.Proofs.YtgjifkegfbpjkaaW.PrintLast Go.Proofs.YtgjifkegfbpjkaaW.PrintMore
theorem bits_ok : ∀ b : Nat, b < 64 → ∀ i : Nat, i < 6 → (decide (Int.tmod (shr .i64 (b : Int) (IntKind.u64.wrap (i : Int))) 2 = 1)) = Nat.testBit b i := by decide +kernel
theorem u64_nn : ∀ i : Nat, i < 6 → 0 ≤ IntKind.u64.wrap (i : Int) := by decide +kernel
theorem shorter_f (k : Nat) (a b : List Int) (ha : a.length ≤ 20) (hb : b.length ≤ 20) (hk : 60 ≤ k) : contangoref11_Shorter.f k a b = some (shB a b) := by
  unfold contangoref11_Shorter.f shB
  by_cases h1 : a.length < b.length
  · rw [if_pos (by omega), decide_eq_true h1]; rfl
  · rw [if_neg (by omega), decide_eq_false h1]
    by_cases h2 : a.length = b.length
    · rw [if_pos (by omega), before_f k a b (by omega) (by omega) (by omega), decide_eq_true h2]; rfl
    · rw [if_neg (by omega), decide_eq_false h2]; rfl
theorem rd88_getD (hs : List S88) (i : Nat) (h : i < hs.length) : rd_T88 hs (i : Int) = hs.getD i z88 := by
  unfold rd_T88; rw [show ((i : Int).toNat) = i from by omega]
theorem setB_succ (n b : Nat) : setB (n + 1) b = if b.testBit n = true then setB n b ++ [(n : Int)] else setB n b := by
  unfold setB
  rw [List.range_succ, List.filter_append]
  cases h : b.testBit n
  · rw [if_neg (by simp)]; simp [h]
  · rw [if_pos rfl]; simp [h]
theorem has_l0 (ex : Int) (hs : List S88) (cs : List S101) (hn : hs.length ≤ 6) (hv : ∀ h ∈ hs, 0 ≤ h.f0.f0 ∧ h.f0.f0 ≤ 200 ∧ 0 ≤ h.f0.f1 ∧ h.f0.f1 ≤ 200) : ∀ (d k i : Nat) (a c : Int), hs.length - i = d → d < k → i ≤ hs.length → 0 ≤ a → a ≤ 200 * i → 0 ≤ c → c ≤ 200 * i →
    contangoref11_Has.l0 k a c (i : Int) ex hs cs = some (decide (a + sumLo ((hs.drop i).map cvH) ≤ ex ∧ ex ≤ c + sumHi ((hs.drop i).map cvH)))
  | d, 0, i, a, c, hd, hk, hi, h1, h2, h3, h4 => by omega
  | d, k + 1, i, a, c, hd, hk, hi, h1, h2, h3, h4 => by
    rw [contangoref11_Has.l0]
    by_cases h : i < hs.length
    · rw [if_pos (by omega), if_pos (by omega), drop_rd88 hs i h]
      have hx := hv (rd_T88 hs (i : Int)) (by have := drop_rd88 hs i h; exact List.mem_of_mem_drop (i := i) (by rw [this]; exact List.mem_cons_self))
      generalize rd_T88 hs (i : Int) = x at hx ⊢
      rw [show wrap64 (a + x.f0.f0) = a + x.f0.f0 from by unfold wrap64; omega, show wrap64 (c + x.f0.f1) = c + x.f0.f1 from by unfold wrap64; omega, wsucc i (by omega),
        has_l0 ex hs cs hn hv (d - 1) k (i + 1) _ _ (by omega) (by omega) (by omega) (by omega) (by omega) (by omega) (by omega)]
      congr 1
      refine dec_iff ?_
      simp only [List.map_cons, sumLo, sumHi, List.sum_cons, cvH, List.map_map]
      omega
    · rw [if_neg (by omega), List.drop_of_length_le (by omega), in_f]
      simp [sumLo, sumHi]
theorem has_f (k : Nat) (ex : Int) (hs : List S88) (cs : List S101) (hn : hs.length ≤ 6) (hv : ∀ h ∈ hs.map cvH, vH h = true) (hk : 6 < k) : contangoref11_Has.f k ex hs cs = some (pos ex (hs.map cvH)) := by
  unfold contangoref11_Has.f
  rw [show (0 : Int) = ((0 : Nat) : Int) from rfl, has_l0 ex hs cs hn ?_ hs.length k 0 _ _ (by omega) (by omega) (by omega) (by omega) (by omega) (by omega) (by omega)]
  · unfold pos; simp
  · intro h hh
    have := (vH_iff _).1 (hv (cvH h) (List.mem_map.2 ⟨h, hh, rfl⟩))
    simp only [cvH] at this
    omega
theorem ext73 (a b : List S73) (h : a.length = b.length) (he : ∀ j, j < a.length → a.getD j z73 = b.getD j z73) : a = b := by
  refine List.ext_getElem h fun j h1 h2 => ?_
  have := he j h1
  simpa [h1, h2] using this
theorem setB_nonneg (n b : Nat) : ∀ x ∈ setB n b, 0 ≤ x := by
  intro x hx
  obtain ⟨i, h, _⟩ := inc_mem (setB_inc n b (fun _ => true) (fun _ _ _ => rfl)) x hx
  omega
theorem pow_le : ∀ n : Nat, n ≤ 6 → 2 ^ n ≤ 64 := by decide +kernel
end Go.Proofs.Ytgjifkegfbpjkaa.Q
end
