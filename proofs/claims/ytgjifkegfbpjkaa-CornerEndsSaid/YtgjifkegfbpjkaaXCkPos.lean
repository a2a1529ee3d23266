/- Plain laws: a market has a truth if the sums allow it. -/
import Derived.Test.YtgjifkegfbpjkaaXCkBits
import Derived.Test.YtgjifkegfbpjkaaXCkAsked
section
namespace Go.Proofs.Ytgjifkegfbpjkaa.Q
set_option linter.unusedVariables false
set_option linter.unusedSimpArgs false
open Go.RowKit Go.Proofs.YtgjifkegfbpjkaaW.PrintWords Go.Proofs.YtgjifkegfbpjkaaW.PrintLast Go.Proofs.YtgjifkegfbpjkaaW.PrintMore
theorem truth_pos : ∀ (H : List S73) (left : Int), (∀ h ∈ H, vH h = true) → ((∃ t, inHeld H t = true ∧ t.sum = left) ↔ sumLo H ≤ left ∧ left ≤ sumHi H)
  | [], left, _ => by
    constructor
    · rintro ⟨t, h1, h2⟩
      match t, h1 with
      | [], _ => simp [sumLo, sumHi] at h2 ⊢; omega
      | _ :: _, h1 => simp [inHeld] at h1
    · intro h
      simp only [sumLo, sumHi, List.map_nil, List.sum_nil] at h
      exact ⟨[], rfl, by simp; omega⟩
  | h :: H, left, hv => by
    have hh := (vH_iff h).1 (hv h List.mem_cons_self)
    have ih := fun l => truth_pos H l (fun x hx => hv x (List.mem_cons_of_mem _ hx))
    have e1 : sumLo (h :: H) = h.f0.f0 + sumLo H := by simp [sumLo]
    have e2 : sumHi (h :: H) = h.f0.f1 + sumHi H := by simp [sumHi]
    have hle : sumLo H ≤ sumHi H := by
      have : ∀ (L : List S73), (∀ h ∈ L, vH h = true) → sumLo L ≤ sumHi L := by
        intro L
        induction L with
        | nil => intro _; simp [sumLo, sumHi]
        | cons x L ihL =>
          intro hL
          have a := ihL (fun y hy => hL y (List.mem_cons_of_mem _ hy))
          have c := (vH_iff x).1 (hL x List.mem_cons_self)
          unfold sumLo sumHi at a ⊢
          simp only [List.map_cons, List.sum_cons]; omega
      exact this H (fun x hx => hv x (List.mem_cons_of_mem _ hx))
    rw [e1, e2]
    constructor
    · rintro ⟨t, h1, h2⟩
      match t, h1 with
      | [], h1 => simp [inHeld] at h1
      | x :: t, h1 =>
        simp only [inHeld, Bool.and_eq_true, decide_eq_true_eq] at h1
        simp only [List.sum_cons] at h2
        have := (ih (left - x)).1 ⟨t, h1.2, by omega⟩
        omega
    · intro h0
      by_cases c : left - h.f0.f0 ≤ sumHi H
      · obtain ⟨t, t1, t2⟩ := (ih (left - h.f0.f0)).2 ⟨by omega, c⟩
        exact ⟨h.f0.f0 :: t, by simp only [inHeld, Bool.and_eq_true, decide_eq_true_eq]; exact ⟨⟨by omega, by omega⟩, t1⟩, by simp only [List.sum_cons]; omega⟩
      · obtain ⟨t, t1, t2⟩ := (ih (sumHi H)).2 ⟨hle, by omega⟩
        exact ⟨(left - sumHi H) :: t, by simp only [inHeld, Bool.and_eq_true, decide_eq_true_eq]; exact ⟨⟨by omega, by omega⟩, t1⟩, by simp only [List.sum_cons]; omega⟩
theorem pos_short {ex : Int} {H : List S73} {C : List S75} (hck : ck ex H C = 0) : (shortR ex H C).2.2 = pos ex H := by
  obtain ⟨z1, z2, z3, z4, z5, z6, z7⟩ := ck_zero hck
  have hok := ck_okCs hck
  have key : lst false C H 0 ex ≠ nev ↔ (sumLo H ≤ ex ∧ ex ≤ sumHi H) := by
    rw [← truth_pos H ex z6]
    constructor
    · intro h
      obtain ⟨t, h1, h2, _⟩ := lst_att false _ _ _ _ h
      exact ⟨t, h1, h2⟩
    · rintro ⟨t, h1, h2⟩
      exact (lst_le false _ hok _ _ _ t (by omega) z6 h1 h2).1
  unfold shortR pos
  by_cases e : lst false C H 0 ex = nev
  · rw [if_pos e]
    exact (decide_eq_false (fun h => (key.2 h) e)).symm
  · rw [if_neg e]
    exact (decide_eq_true (key.1 e)).symm
end Go.Proofs.Ytgjifkegfbpjkaa.Q
end
