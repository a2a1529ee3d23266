/- Plain laws: what is asked of a market, and the truth that is shown. -/
import Derived.Test.YtgjifkegfbpjkaaXCkBounds
import Derived.Test.YtgjifkegfbpjkaaXCkShow
import Derived.Test.YtgjifkegfbpjkaaXCkCorner
import Derived.Test.YtgjifkegfbpjkaaXQf30
import Derived.Test.YtgjifkegfbpjkaaXQf32
import Derived.Test.YtgjifkegfbpjkaaXQf29
section
namespace Go.Proofs.Ytgjifkegfbpjkaa.Q
set_option linter.unusedVariables false
set_option linter.unusedSimpArgs false
open Go.RowKit Go.Proofs.YtgjifkegfbpjkaaW.PrintWords Go.Proofs.YtgjifkegfbpjkaaW.PrintLast Go.Proofs.YtgjifkegfbpjkaaW.PrintMore
theorem asked_bad (ex : Int) (H : List S73) (C : List S75) (h : ck ex H C ≠ 0) : corner_Market_asked.f ex H C = some (0, 0, ck ex H C) := by
  unfold corner_Market_asked.f corner_CheckMarket.f
  rw [Option.bind_some, if_neg h]
theorem asked_no (ex : Int) (H : List S73) (C : List S75) (h : ck ex H C = 0) (hs : (shortR ex H C).2.2 = false) : corner_Market_asked.f ex H C = some (0, 0, 9) := by
  unfold corner_Market_asked.f corner_CheckMarket.f corner_Market_shortage.f
  rw [Option.bind_some, if_pos h, if_pos h, Option.bind_some, if_neg (by rw [hs]; simp)]
theorem asked_yes (ex : Int) (H : List S73) (C : List S75) (h : ck ex H C = 0) (hs : (shortR ex H C).2.2 = true) : corner_Market_asked.f ex H C = some ((shortR ex H C).1, (shortR ex H C).2.1, 0) := by
  unfold corner_Market_asked.f corner_CheckMarket.f corner_Market_shortage.f
  rw [Option.bind_some, if_pos h, if_pos h, Option.bind_some, if_pos hs]
theorem short_of {ex : Int} {H : List S73} {C : List S75} {a b : Int} {e : Int} (h : corner_Market_asked.f ex H C = some (a, b, e)) : corner_Shortage.f ex H C = some (a, b, e) := by
  unfold corner_Shortage.f; rw [h]; rfl
theorem cornered_of {ex : Int} {H : List S73} {C : List S75} {a b : Int} {e : Int} (h : corner_Market_asked.f ex H C = some (a, b, e)) : corner_Cornered.f ex H C = some (decide (a > 0), decide (b > 0), e) := by
  unfold corner_Cornered.f; rw [h]; rfl
theorem show_bad {ex : Int} {H : List S73} {C : List S75} {a b : Int} {e : Int} (h : corner_Market_asked.f ex H C = some (a, b, e)) (he : e ≠ 0) (up : Bool) : corner_Show.f ex H C up = some ([], e) := by
  unfold corner_Show.f; rw [h, Option.bind_some, if_neg he]
theorem show_ok {ex : Int} {H : List S73} {C : List S75} {a b : Int} (h : corner_Market_asked.f ex H C = some (a, b, 0)) (up : Bool) : corner_Show.f ex H C up = some (trL up C H 0 ex, 0) := by
  unfold corner_Show.f; rw [h, Option.bind_some, if_pos rfl]
theorem shortR_ok {ex : Int} {H : List S73} {C : List S75} (h : (shortR ex H C).2.2 = true) : lst false C H 0 ex ≠ nev ∧ (shortR ex H C).1 = lst false C H 0 ex ∧ (shortR ex H C).2.1 = -lst true C H 0 ex := by
  unfold shortR at h ⊢
  by_cases e : lst false C H 0 ex = nev
  · rw [if_pos e] at h; cases h
  · rw [if_neg e]; exact ⟨e, rfl, rfl⟩
theorem few_no (k : Nat) (ex : Int) (hs : List S88) (cs : List S101) (m : Int) (hk : 100 < k) (h : ¬ (hs.length ≤ 9 ∧ cs.length ≤ 11)) : contangolaw11_few.f k ex hs cs m = some false := by
  unfold contangolaw11_few.f contangolaw11_Thin.f
  by_cases h1 : (hs.length : Int) ≤ 9
  · rw [if_pos h1, if_neg (by omega), Option.bind_some, if_neg (by simp)]
  · rw [if_neg h1, Option.bind_some, if_neg (by simp)]
theorem few_yes (k : Nat) (ex : Int) (hs : List S88) (cs : List S101) (m : Int) (hk : 100 < k) (h1 : hs.length ≤ 9) (h2 : cs.length ≤ 11) : contangolaw11_few.f k ex hs cs m = some (if ck ex (hs.map cvH) (cs.map cvC) = 0 then decide ((mny 1 (hs.dropLast.map cvH) : Int) ≤ m) else true) := by
  unfold contangolaw11_few.f contangolaw11_Thin.f
  rw [if_pos (by omega), if_pos (by omega), decide_eq_true (by simp), Option.bind_some, if_pos rfl, fault_f k ex hs cs (by omega) (by omega) (by omega), Option.bind_some]
  by_cases h : ck ex (hs.map cvH) (cs.map cvC) = 0
  · obtain ⟨z1, z2, z3, z4, z5, z6, z7⟩ := ck_zero h
    rw [if_pos h, if_pos h, many_f k ex hs cs (by omega) (by simpa using z1) z6 (by omega)]; rfl
  · rw [if_neg h, if_neg h]
theorem pk_hit (p : Nat → Bool) : ∀ n, (pk p n < n → p (pk p n) = true) ∧ (pk p n = n → ∀ k, k < n → p k = false)
  | 0 => ⟨fun h => by omega, fun _ k h => by omega⟩
  | n + 1 => by
    obtain ⟨h1, h2⟩ := pk_hit p n
    have hle := pk_le p n
    unfold pk
    by_cases c : pk p n < n
    · rw [if_pos c]
      exact ⟨fun _ => h1 c, fun e => by omega⟩
    · rw [if_neg c]
      cases hp : p n with
      | true => rw [if_pos rfl]; exact ⟨fun _ => hp, fun e => by omega⟩
      | false =>
        rw [if_neg (by simp)]
        refine ⟨fun h => by omega, fun _ k hk => ?_⟩
        by_cases e : k = n
        · rw [e]; exact hp
        · exact h2 (by omega) k (by omega)
theorem trL_ok (up : Bool) (cs : List S75) : ∀ (hs : List S73) (i left : Int), lst up cs hs i left ≠ nev → inHeld hs (trL up cs hs i left) = true ∧ (trL up cs hs i left).sum = left ∧ lkS up cs hs i (trL up cs hs i left) = lst up cs hs i left
  | [], i, left, h => by
    unfold lst at h ⊢
    split at h
    · rename_i e; exact ⟨rfl, by simp [trL, e], by rw [if_pos e]; rfl⟩
    · exact absurd rfl h
  | h :: hs, i, left, hne => by
    have hd : lst up cs (h :: hs) i left = lmin (fun k => lst up cs hs (i + 1) (left - (h.f0.f0 + k))) (fun k => lk up h.f1 (ow cs i + (h.f0.f0 + k))) (mi h.f0.f1 left - h.f0.f0 + 1).toNat := rfl
    obtain ⟨k0, c1, c2, c3⟩ := lmin_att (fun k => lst up cs hs (i + 1) (left - (h.f0.f0 + k))) (fun k => lk up h.f1 (ow cs i + (h.f0.f0 + k))) _ (hd ▸ hne)
    have hk0 : hit up cs h hs i left k0 = true := by
      unfold hit
      rw [hd, c3]
      simp only [Bool.and_eq_true, Bool.not_eq_true', beq_eq_false_iff_ne, beq_iff_eq]
      exact ⟨c2, trivial⟩
    have hle : k0 ≤ (h.f0.f1 - h.f0.f0).toNat := by
      unfold mi at c1; split at c1 <;> omega
    have hw : (h.f0.f0 : Int) + k0 ≤ h.f0.f1 := by
      unfold mi at c1; split at c1 <;> omega
    obtain ⟨p1, p2⟩ := pk_hit (hit up cs h hs i left) (h.f0.f1 - h.f0.f0).toNat
    have hp0 := pk_le (hit up cs h hs i left) (h.f0.f1 - h.f0.f0).toNat
    have hpk : hit up cs h hs i left (pk (hit up cs h hs i left) (h.f0.f1 - h.f0.f0).toNat) = true := by
      by_cases e : pk (hit up cs h hs i left) (h.f0.f1 - h.f0.f0).toNat < (h.f0.f1 - h.f0.f0).toNat
      · exact p1 e
      · have e2 : pk (hit up cs h hs i left) (h.f0.f1 - h.f0.f0).toNat = (h.f0.f1 - h.f0.f0).toNat := by omega
        by_cases e3 : k0 = (h.f0.f1 - h.f0.f0).toNat
        · rw [e2, ← e3]; exact hk0
        · have := p2 e2 k0 (by omega)
          rw [hk0] at this; cases this
    unfold trL
    generalize pk (hit up cs h hs i left) (h.f0.f1 - h.f0.f0).toNat = q at hp0 hpk ⊢
    unfold hit at hpk
    simp only [Bool.and_eq_true, Bool.not_eq_true', beq_eq_false_iff_ne, beq_iff_eq] at hpk
    obtain ⟨t1, t2, t3⟩ := trL_ok up cs hs (i + 1) (left - (h.f0.f0 + q)) hpk.1
    refine ⟨?_, ?_, ?_⟩
    · simp only [inHeld, Bool.and_eq_true, decide_eq_true_eq]; exact ⟨⟨by omega, by omega⟩, t1⟩
    · simp only [List.sum_cons]; omega
    · unfold lkS; rw [t3, ← hpk.2]; omega
end Go.Proofs.Ytgjifkegfbpjkaa.Q
end
