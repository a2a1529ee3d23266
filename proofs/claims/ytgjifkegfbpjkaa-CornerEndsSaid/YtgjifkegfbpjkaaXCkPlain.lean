/- Plain laws: what the small functions of the answer and of the statements of corner come to. -/
import Derived.Test.YtgjifkegfbpjkaaXCkNeeds
import Derived.Test.YtgjifkegfbpjkaaXSmall
import Derived.Test.YtgjifkegfbpjkaaXQf21
import Derived.Test.YtgjifkegfbpjkaaXQf24
import Derived.Test.YtgjifkegfbpjkaaXQf26
import Derived.Test.YtgjifkegfbpjkaaXQf27
import Derived.Test.YtgjifkegfbpjkaaXQf20
import Derived.Test.YtgjifkegfbpjkaaXQf23
section
namespace Go.Proofs.Ytgjifkegfbpjkaa.Q
set_option linter.unusedVariables false
set_option linter.unusedSimpArgs false
open Go.RowKit Go.Proofs.YtgjifkegfbpjkaaW.PrintWords Go.Proofs.YtgjifkegfbpjkaaW.PrintLast Go.Proofs.YtgjifkegfbpjkaaW.PrintMore
def cvH (h : S88) : S73 := ⟨⟨h.f0.f0, h.f0.f1⟩, h.f1, h.f2⟩
def cvC (c : S101) : S75 := ⟨c.f0, c.f1, c.f2⟩
theorem wsucc (i : Nat) (h : i ≤ 1000000) : wrap64 ((i : Int) + 1) = ((i + 1 : Nat) : Int) := by unfold wrap64; omega
theorem drop_rd88 (l : List S88) (i : Nat) (h : i < l.length) : l.drop i = rd_T88 l (i : Int) :: l.drop (i + 1) := by
  rw [List.drop_eq_getElem_cons h]; unfold rd_T88; rw [show ((i : Int).toNat) = i from by omega]; simp [h]
theorem drop_rd101 (l : List S101) (i : Nat) (h : i < l.length) : l.drop i = rd_T101 l (i : Int) :: l.drop (i + 1) := by
  rw [List.drop_eq_getElem_cons h]; unfold rd_T101; rw [show ((i : Int).toNat) = i from by omega]; simp [h]
theorem drop_rd73 (l : List S73) (i : Nat) (h : i < l.length) : l.drop i = rd_T73 l (i : Int) :: l.drop (i + 1) := by
  rw [List.drop_eq_getElem_cons h]; unfold rd_T73; rw [show ((i : Int).toNat) = i from by omega]; simp [h]
theorem drop_rd (l : List Int) (i : Nat) (h : i < l.length) : l.drop i = rd l (i : Int) :: l.drop (i + 1) := by
  rw [List.drop_eq_getElem_cons h]; unfold rd; rw [show ((i : Int).toNat) = i from by omega]; simp [h]
theorem market_l1 (ex : Int) (hs : List S88) (cs : List S101) (e : Int) (H : List S73) (hc : cs.length ≤ 1000) : ∀ (d k i : Nat) (acc : List S75), cs.length - i = d → d < k → i ≤ cs.length → acc.length = i →
    contangolaw11_Market.l1 k (i : Int) ex hs cs e H acc = some (e, H, acc ++ (cs.drop i).map cvC)
  | d, 0, i, acc, hd, hk, hi, ha => by omega
  | d, k + 1, i, acc, hd, hk, hi, ha => by
    rw [contangolaw11_Market.l1]
    by_cases h : i < cs.length
    · rw [if_pos (by omega), if_pos (by omega), if_pos (by omega), wsucc i (by omega), market_l1 ex hs cs e H hc (d - 1) k (i + 1) _ (by omega) (by omega) (by omega) (by simp [ha]), drop_rd101 cs i h]
      simp [cvC]
    · rw [if_neg (by omega), List.drop_of_length_le (by omega)]; simp
theorem market_l0 (ex : Int) (hs : List S88) (cs : List S101) (e : Int) (hh : hs.length ≤ 1000) (hc : cs.length ≤ 1000) : ∀ (d k i : Nat) (acc : List S73), hs.length - i = d → d + cs.length + 1 < k → i ≤ hs.length → acc.length = i →
    contangolaw11_Market.l0 k (i : Int) ex hs cs e acc = some (e, acc ++ (hs.drop i).map cvH, cs.map cvC)
  | d, 0, i, acc, hd, hk, hi, ha => by omega
  | d, k + 1, i, acc, hd, hk, hi, ha => by
    rw [contangolaw11_Market.l0]
    by_cases h : i < hs.length
    · rw [if_pos (by omega), if_pos (by omega), if_pos (by omega), wsucc i (by omega), market_l0 ex hs cs e hh hc (d - 1) k (i + 1) _ (by omega) (by omega) (by omega) (by simp [ha]), drop_rd88 hs i h]
      simp [cvH]
    · rw [if_neg (by omega), show (0 : Int) = ((0 : Nat) : Int) from rfl, market_l1 ex hs cs e acc hc cs.length k 0 [] (by omega) (by omega) (by omega) rfl, List.drop_of_length_le (show hs.length ≤ i by omega)]; simp
theorem market_f (k : Nat) (ex : Int) (hs : List S88) (cs : List S101) (hh : hs.length ≤ 1000) (hc : cs.length ≤ 1000) (hk : hs.length + cs.length + 1 < k) : contangolaw11_Market.f k ex hs cs = some (ex, hs.map cvH, cs.map cvC) := by
  unfold contangolaw11_Market.f
  rw [show (0 : Int) = ((0 : Nat) : Int) from rfl, market_l0 ex hs cs ex hh hc hs.length k 0 [] (by omega) (by omega) (by omega) rfl]; simp
theorem list_f (l : List Int) (h : l.length ≤ 1000) : contangolaw11_list.f l = some l := by
  unfold contangolaw11_list.f
  simp; omega
theorem in_f (a b c : Int) : contangoref11_In.f a b c = some (decide (b ≤ a ∧ a ≤ c)) := by
  unfold contangoref11_In.f
  by_cases h : a ≥ b
  · rw [if_pos h]; simp [show b ≤ a from h]
  · rw [if_neg h]; simp [show ¬ b ≤ a from h]
theorem fault_l1 (n : Nat) (ex : Int) (hs : List S88) (cs : List S101) (hc : cs.length ≤ 1000) : ∀ (d k i : Nat), cs.length - i = d → d < k → i ≤ cs.length →
    contangoref11_Fault.l1 k ((n : Int) - 1) (i : Int) ex hs cs = some (if ((cs.drop i).map cvC).all (vC n) = true then 0 else 1)
  | d, 0, i, hd, hk, hi => by omega
  | d, k + 1, i, hd, hk, hi => by
    rw [contangoref11_Fault.l1]
    by_cases h : i < cs.length
    · rw [if_pos (by omega), if_pos (by omega), in_f, in_f, in_f, drop_rd101 cs i h]
      generalize rd_T101 cs (i : Int) = c
      have ih := fault_l1 n ex hs cs hc (d - 1) k (i + 1) (by omega) (by omega) (by omega)
      simp only [Option.bind_some, List.map_cons, List.all_cons, Bool.and_eq_true]
      rw [wsucc i (by omega), ih]
      simp only [vC_iff, cvC, decide_eq_true_eq]
      by_cases h1 : 0 ≤ c.f0 ∧ c.f0 ≤ (n : Int) - 1
      · rw [if_pos h1]
        by_cases h2 : 0 ≤ c.f1 ∧ c.f1 ≤ (n : Int) - 1
        · rw [if_pos h2]
          by_cases h3 : c.f0 = c.f1
          · rw [if_pos h3, if_neg (by intro hh; exact hh.1.2.2.2.2.1 h3)]
          · rw [if_neg h3]
            by_cases h4 : 1 ≤ c.f2 ∧ c.f2 ≤ 200
            · rw [if_pos h4]
              congr 1
              by_cases h5 : (List.map cvC (List.drop (i + 1) cs)).all (vC n) = true
              · rw [if_pos h5, if_pos ⟨⟨h1.1, h1.2, h2.1, h2.2, h3, h4.1, h4.2⟩, h5⟩]
              · rw [if_neg h5, if_neg (fun hh => h5 hh.2)]
            · rw [if_neg h4, if_neg (fun hh => h4 ⟨hh.1.2.2.2.2.2.1, hh.1.2.2.2.2.2.2⟩)]
        · rw [if_neg h2, if_neg (fun hh => h2 ⟨hh.1.2.2.1, hh.1.2.2.2.1⟩)]
      · rw [if_neg h1, if_neg (fun hh => h1 ⟨hh.1.1, hh.1.2.1⟩)]
    · rw [if_neg (by omega), List.drop_of_length_le (by omega)]; simp
theorem fault_l0 (ex : Int) (hs : List S88) (cs : List S101) (hh : hs.length ≤ 1000) (hc : cs.length ≤ 1000) (h0 : 0 < hs.length) : ∀ (d k i : Nat), hs.length - i = d → d + cs.length + 1 < k → i ≤ hs.length →
    contangoref11_Fault.l0 k ((hs.length : Int) - 1) (i : Int) ex hs cs = some (if ((hs.drop i).map cvH).all vH = true ∧ (cs.map cvC).all (vC hs.length) = true then 0 else 1)
  | d, 0, i, hd, hk, hi => by omega
  | d, k + 1, i, hd, hk, hi => by
    rw [contangoref11_Fault.l0]
    by_cases h : i < hs.length
    · rw [if_pos (by omega), if_pos (by omega), if_pos (by omega), in_f, in_f, drop_rd88 hs i h]
      generalize rd_T88 hs (i : Int) = c
      have ih := fault_l0 ex hs cs hh hc h0 (d - 1) k (i + 1) (by omega) (by omega) (by omega)
      simp only [Option.bind_some, List.map_cons, List.all_cons, Bool.and_eq_true]
      rw [wsucc i (by omega), ih]
      simp only [vH_iff, cvH, decide_eq_true_eq]
      by_cases h1 : 0 ≤ c.f0.f0 ∧ c.f0.f0 ≤ c.f0.f1
      · rw [if_pos h1]
        by_cases h2 : c.f0.f1 > 200
        · rw [if_pos h2, if_neg (fun hh => by have := hh.1.1.2.2.1; omega)]
        · rw [if_neg h2]
          by_cases h3 : 0 ≤ c.f2 ∧ c.f2 ≤ 1000
          · rw [if_pos h3]
            congr 1
            by_cases h5 : (List.map cvH (List.drop (i + 1) hs)).all vH = true ∧ (List.map cvC cs).all (vC hs.length) = true
            · rw [if_pos h5, if_pos ⟨⟨⟨h1.1, h1.2, by omega, h3.1, h3.2⟩, h5.1⟩, h5.2⟩]
            · rw [if_neg h5, if_neg (fun hh => h5 ⟨hh.1.2, hh.2⟩)]
          · rw [if_neg h3, if_neg (fun hh => h3 ⟨hh.1.1.2.2.2.1, hh.1.1.2.2.2.2⟩)]
      · rw [if_neg h1, if_neg (fun hh => h1 ⟨hh.1.1.1, hh.1.1.2.1⟩)]
    · rw [if_neg (by omega), show (0 : Int) = ((0 : Nat) : Int) from rfl, fault_l1 hs.length ex hs cs hc cs.length k 0 (by omega) (by omega) (by omega), List.drop_of_length_le (show hs.length ≤ i by omega)]; simp
theorem fault_f (k : Nat) (ex : Int) (hs : List S88) (cs : List S101) (hh : hs.length ≤ 1000) (hc : cs.length ≤ 1000) (hk : hs.length + cs.length + 5 < k) : contangoref11_Fault.f k ex hs cs = some (ck ex (hs.map cvH) (cs.map cvC)) := by
  obtain ⟨k, rfl⟩ : ∃ m, k = m + 2 := ⟨k - 2, by omega⟩
  have key : contangoref11_Fault.f (k + 2) ex hs cs = contangoref11_Fault.j0 (k + 2) (decide (6 < hs.length ∨ 8 < cs.length)) ex hs cs := by
    unfold contangoref11_Fault.f
    by_cases h : (hs.length : Int) > 6
    · rw [if_pos h, decide_eq_true (Or.inl (by omega))]
    · rw [if_neg h]; congr 1; rw [decide_eq_decide]; omega
  rw [key, contangoref11_Fault.j0]
  unfold ck
  simp only [List.length_map, decide_eq_true_eq]
  by_cases h1 : 6 < hs.length ∨ 8 < cs.length
  · rw [if_pos h1, if_pos h1]
  · rw [if_neg h1, if_neg h1, in_f]
    simp only [Option.bind_some, decide_eq_true_eq]
    by_cases h2 : 1 ≤ ex ∧ ex ≤ 200
    · rw [if_pos h2, contangoref11_Fault.j1]
      by_cases h3 : hs.length = 0
      · rw [if_pos (by simp [h3]), if_pos (Or.inr (Or.inl h3))]
      · rw [show ((hs.length : Int) == 0) = false from beq_eq_false_iff_ne.2 (by omega), if_neg (by simp), show wrap64 ((hs.length : Int) - 1) = (hs.length : Int) - 1 from by unfold wrap64; omega, show (0 : Int) = ((0 : Nat) : Int) from rfl,
          fault_l0 ex hs cs hh hc (by omega) hs.length k 0 (by omega) (by omega) (by omega), List.drop_zero]
        congr 1
        cases h4 : (hs.map cvH).all vH with
        | false => rw [if_neg (by simp), if_pos (Or.inr (Or.inr (Or.inl rfl)))]
        | true =>
          cases h5 : (cs.map cvC).all (vC hs.length) with
          | false => rw [if_neg (by simp), if_pos (Or.inr (Or.inr (Or.inr rfl)))]
          | true => rw [if_pos ⟨rfl, rfl⟩, if_neg (by intro hh; rcases hh with h | h | h | h <;> first | exact h h2 | exact h3 h | cases h)]; rfl
    · rw [if_neg h2, contangoref11_Fault.j1, if_pos rfl, if_pos (Or.inl h2)]
theorem dec_iff {p q : Prop} {i : Decidable p} {j : Decidable q} (h : p ↔ q) : @decide p i = @decide q j := by
  by_cases hp : p
  · rw [decide_eq_true hp, decide_eq_true (h.1 hp)]
  · rw [decide_eq_false hp, decide_eq_false (fun hq => hp (h.2 hq))]
theorem within_f (a b c : Int) : corner_within.f a b c = some (decide (b ≤ a ∧ a ≤ c)) := by
  by_cases h : b ≤ a ∧ a ≤ c
  · rw [within_yes h.1 h.2, decide_eq_true h]
  · rw [within_no h, decide_eq_false h]
theorem sum_bd : ∀ (hs : List S73) (t : List Int), inHeld hs t = true → (∀ h ∈ hs, vH h = true) → 0 ≤ t.sum ∧ t.sum ≤ 200 * t.length
  | [], [], _, _ => by simp
  | h :: hs, x :: t, e, hv => by
    simp only [inHeld, Bool.and_eq_true, decide_eq_true_eq] at e
    have ih := sum_bd hs t e.2 (fun y hy => hv y (List.mem_cons_of_mem _ hy))
    have := (vH_iff h).1 (hv h List.mem_cons_self)
    simp only [List.sum_cons, List.length_cons]
    omega
  | [], _ :: _, e, _ => by simp [inHeld] at e
  | _ :: _, [], e, _ => by simp [inHeld] at e
theorem istruth_l0 (ex : Int) (hs : List S88) (cs : List S101) (t : List Int) (hl : t.length = hs.length) (hh : hs.length ≤ 1000) (hv : ∀ h ∈ hs.map cvH, vH h = true) : ∀ (d k i : Nat) (s : Int), hs.length - i = d → d < k → i ≤ hs.length → 0 ≤ s → s ≤ 200 * i →
    contangoref11_IsTruth.l0 k t s (i : Int) ex hs cs = some (inHeld ((hs.drop i).map cvH) (t.drop i) && decide (s + (t.drop i).sum = ex))
  | d, 0, i, s, hd, hk, hi, h1, h2 => by omega
  | d, k + 1, i, s, hd, hk, hi, h1, h2 => by
    rw [contangoref11_IsTruth.l0]
    by_cases h : i < hs.length
    · rw [if_pos (by omega), if_pos (by omega), if_pos (by omega), in_f, drop_rd88 hs i h, drop_rd t i (by omega)]
      have hm : cvH (rd_T88 hs (i : Int)) ∈ hs.map cvH := List.mem_map.2 ⟨_, by have := drop_rd88 hs i h; exact List.mem_of_mem_drop (i := i) (by rw [this]; exact List.mem_cons_self), rfl⟩
      have hx := (vH_iff _).1 (hv _ hm)
      generalize rd_T88 hs (i : Int) = c at hx ⊢
      generalize rd t (i : Int) = x
      simp only [cvH] at hx
      simp only [Option.bind_some, List.map_cons, inHeld, List.sum_cons, cvH]
      by_cases h3 : c.f0.f0 ≤ x ∧ x ≤ c.f0.f1
      · rw [if_pos (decide_eq_true h3), show wrap64 (s + x) = s + x from by unfold wrap64; omega, wsucc i (by omega), istruth_l0 ex hs cs t hl hh hv (d - 1) k (i + 1) (s + x) (by omega) (by omega) (by omega) (by omega) (by omega), decide_eq_true h3.1, decide_eq_true h3.2]
        congr 1
        simp only [Bool.true_and]
        congr 1
        exact dec_iff (by omega)
      · rw [if_neg (by simpa using h3)]
        congr 1
        symm
        rw [Bool.and_eq_false_iff]; left
        rw [Bool.and_eq_false_iff]; left
        rw [← Bool.decide_and]; exact decide_eq_false h3
    · rw [if_neg (by omega), List.drop_of_length_le (show hs.length ≤ i by omega), List.drop_of_length_le (show t.length ≤ i by omega)]
      simp [inHeld]
      exact (Bool.beq_eq_decide_eq _ _)
theorem inHeld_len_false : ∀ (hs : List S73) (t : List Int), t.length ≠ hs.length → inHeld hs t = false := fun hs t h => by
  cases e : inHeld hs t with
  | false => rfl
  | true => exact absurd (inHeld_length hs t e) h
theorem istruth_f (k : Nat) (ex : Int) (hs : List S88) (cs : List S101) (t : List Int) (hh : hs.length ≤ 1000) (hv : ∀ h ∈ hs.map cvH, vH h = true) (hk : hs.length < k) : contangoref11_IsTruth.f k ex hs cs t = some (isT ex (hs.map cvH) t) := by
  unfold contangoref11_IsTruth.f isT
  by_cases hl : t.length = hs.length
  · rw [if_pos (by omega), show (0 : Int) = ((0 : Nat) : Int) from rfl, istruth_l0 ex hs cs t hl hh hv hs.length k 0 _ (by omega) (by omega) (by omega) (by simp) (by simp)]
    simp
  · rw [if_neg (by omega), inHeld_len_false _ _ (by simpa using hl)]; rfl
theorem is_l0 (hs : List S73) (t : List Int) (hl : t.length = hs.length) (hh : hs.length ≤ 1000) (hv : ∀ h ∈ hs, vH h = true) (ex : Int) : ∀ (d k i : Nat) (s : Int), hs.length - i = d → d < k → i ≤ hs.length → -1000000 - 200 * i ≤ s → s ≤ 1000000 →
    corner_Market_is.l0 k t s hs (hs.length : Int) (i : Int) = some (inHeld (hs.drop i) (t.drop i) && decide ((t.drop i).sum = s))
  | d, 0, i, s, hd, hk, hi, h1, h2 => by omega
  | d, k + 1, i, s, hd, hk, hi, h1, h2 => by
    rw [corner_Market_is.l0]
    by_cases h : i < hs.length
    · rw [if_pos (by omega), if_pos (by omega), if_pos (by omega), if_pos (by omega), within_f, drop_rd73 hs i h, drop_rd t i (by omega)]
      have hm : rd_T73 hs (i : Int) ∈ hs := by have := drop_rd73 hs i h; exact List.mem_of_mem_drop (i := i) (by rw [this]; exact List.mem_cons_self)
      have hx := (vH_iff _).1 (hv _ hm)
      generalize rd_T73 hs (i : Int) = c at hx ⊢
      generalize rd t (i : Int) = x
      simp only [Option.bind_some, inHeld, List.sum_cons]
      by_cases h3 : c.f0.f0 ≤ x ∧ x ≤ c.f0.f1
      · rw [if_pos (decide_eq_true h3), show wrap64 (s - x) = s - x from by unfold wrap64; omega, wsucc i (by omega), is_l0 hs t hl hh hv ex (d - 1) k (i + 1) (s - x) (by omega) (by omega) (by omega) (by omega) (by omega), decide_eq_true h3.1, decide_eq_true h3.2]
        congr 1
        simp only [Bool.true_and]
        congr 1
        exact dec_iff (by omega)
      · rw [if_neg (by simpa using h3)]
        congr 1
        symm
        rw [Bool.and_eq_false_iff]; left
        rw [Bool.and_eq_false_iff]; left
        rw [← Bool.decide_and]; exact decide_eq_false h3
    · rw [if_neg (by omega), List.drop_of_length_le (show hs.length ≤ i by omega), List.drop_of_length_le (show t.length ≤ i by omega)]
      simp only [inHeld, List.sum_nil, Bool.true_and]
      congr 1
      rw [Bool.beq_eq_decide_eq]; exact dec_iff eq_comm
theorem is_f (k : Nat) (ex : Int) (hs : List S73) (cs : List S75) (t : List Int) (hh : hs.length ≤ 1000) (hv : ∀ h ∈ hs, vH h = true) (he : 1 ≤ ex ∧ ex ≤ 200) (hk : hs.length < k) : corner_Market_is.f k ex hs cs t = some (isT ex hs t) := by
  unfold corner_Market_is.f isT
  by_cases hl : t.length = hs.length
  · rw [if_pos (by omega), show (0 : Int) = ((0 : Nat) : Int) from rfl, is_l0 hs t hl hh hv ex hs.length k 0 ex (by omega) (by omega) (by omega) (by omega) (by omega)]
    simp
  · rw [if_neg (by omega), inHeld_len_false _ _ hl]; rfl
theorem needs_f (k : Nat) (ex : Int) (hs : List S73) (cs : List S75) (t : List Int) (hk : hs.length < k) : corner_Needs.f k ex hs cs t = some (if ck ex hs cs = 0 then (if isT ex hs t = true then (ndL cs t hs.length, spL hs cs t hs.length, 0) else ([], [], 2)) else ([], [], ck ex hs cs)) := by
  unfold corner_Needs.f corner_CheckMarket.f
  simp only [Option.bind_some]
  by_cases h : ck ex hs cs = 0
  · obtain ⟨z1, z2, z3, z4, z5, z6, z7⟩ := ck_zero h
    rw [if_pos h, if_pos h, is_f k ex hs cs t (by omega) z6 ⟨z4, z5⟩ hk]
    simp only [Option.bind_some]
    cases ht : isT ex hs t with
    | true => rw [if_pos rfl, if_pos rfl]; unfold corner_Market_needs.f; rw [if_pos ⟨h, ht⟩]; rfl
    | false => rfl
  · rw [if_neg h, if_neg h]
theorem ptruth_f (k : Nat) (ex : Int) (hs : List S73) (cs : List S75) (t : List Int) (hk : hs.length < k) : corner_ProveTruth.f k ex hs cs t = some (if ck ex hs cs = 0 then isT ex hs t else false) := by
  unfold corner_ProveTruth.f corner_CheckMarket.f
  simp only [Option.bind_some]
  by_cases h : ck ex hs cs = 0
  · obtain ⟨z1, z2, z3, z4, z5, z6, z7⟩ := ck_zero h
    rw [if_pos h, if_pos h, is_f k ex hs cs t (by omega) z6 ⟨z4, z5⟩ hk]; rfl
  · rw [if_neg h, if_neg h]
theorem posn_l1 (t acc : List Int) (i : Nat) (ex : Int) (hs : List S88) (cs : List S101) (hc : okCs (cs.map cvC)) (ha : acc.length ≤ 1000) (hi : i ≤ 1000) : ∀ (d k j : Nat) (p : Int), cs.length - j = d → j ≤ cs.length → -1000000 - 400 * j ≤ p → p ≤ 1000000 + 400 * j →
    contangoref11_Positions.l1 (k + d + 1) t acc (i : Int) p (j : Int) ex hs cs = contangoref11_Positions.l0 k t (acc ++ [p + ow ((cs.drop j).map cvC) i]) ((i + 1 : Nat) : Int) ex hs cs
  | 0, k, j, p, hd, hj, h1, h2 => by
    have hl : cs.length ≤ 8 := by have := hc.1; simpa using this
    rw [contangoref11_Positions.l1, if_neg (by omega), if_pos (by omega), wsucc i (by omega), List.drop_of_length_le (by omega)]
    simp [ow]
  | d + 1, k, j, p, hd, hj, h1, h2 => by
    have hl : cs.length ≤ 8 := by have := hc.1; simpa using this
    have h : j < cs.length := by omega
    have hm : cvC (rd_T101 cs (j : Int)) ∈ cs.map cvC := List.mem_map.2 ⟨_, by have := drop_rd101 cs j h; exact List.mem_of_mem_drop (i := j) (by rw [this]; exact List.mem_cons_self), rfl⟩
    have hx := hc.2 _ hm
    have ih := fun q => posn_l1 t acc i ex hs cs hc ha hi d k (j + 1) q (by omega) (by omega)
    rw [show k + (d + 1) + 1 = (k + d + 1) + 1 from by omega, contangoref11_Positions.l1, if_pos (by omega), if_pos (by omega), drop_rd101 cs j h]
    generalize rd_T101 cs (j : Int) = c at hx ⊢
    simp only [cvC] at hx
    simp only [List.map_cons, ow, cvC]
    rw [wsucc j (by omega)]
    have e1 : wrap64 (p + c.f2) = p + c.f2 := by unfold wrap64; omega
    have e2 : wrap64 (p - c.f2) = p - c.f2 := by unfold wrap64; omega
    by_cases h3 : c.f1 = (i : Int)
    · by_cases h4 : c.f0 = (i : Int)
      · exact absurd (h4.trans h3.symm) (by have := hx.2.2.2.2.1; exact this)
      · rw [if_pos h3, if_neg h4, if_pos h3, if_neg h4, e1, ih _ (by omega) (by omega)]
        congr 3; omega
    · by_cases h4 : c.f0 = (i : Int)
      · rw [if_neg h3, if_pos h4, if_neg h3, if_pos h4, e2, ih _ (by omega) (by omega)]
        congr 3; omega
      · rw [if_neg h3, if_neg h4, if_neg h3, if_neg h4, ih _ (by omega) (by omega)]
        congr 3; omega
theorem posn_l0 (t : List Int) (ex : Int) (hs : List S88) (cs : List S101) (hc : okCs (cs.map cvC)) (hh : hs.length ≤ 6) (hl : t.length = hs.length) (ht : ∀ x ∈ t, 0 ≤ x ∧ x ≤ 200) : ∀ (d k i : Nat), hs.length - i = d → d * (cs.length + 2) < k → i ≤ hs.length →
    contangoref11_Positions.l0 k t ((List.range i).map (po (cs.map cvC) t)) (i : Int) ex hs cs = some ((List.range hs.length).map (po (cs.map cvC) t))
  | 0, k, i, hd, hk, hi => by
    obtain ⟨k, rfl⟩ : ∃ m, k = m + 1 := ⟨k - 1, by omega⟩
    rw [contangoref11_Positions.l0, if_neg (by omega), show i = hs.length from by omega]
  | d + 1, k, i, hd, hk, hi => by
    have h : i < hs.length := by omega
    rw [Nat.succ_mul] at hk
    obtain ⟨k, rfl⟩ : ∃ m, k = (m + cs.length + 1) + 1 := ⟨k - (cs.length + 2), by omega⟩
    have hx := ht (rd t (i : Int)) (by have := drop_rd t i (by omega); exact List.mem_of_mem_drop (i := i) (by rw [this]; exact List.mem_cons_self))
    rw [contangoref11_Positions.l0, if_pos (by omega), if_pos (by omega), if_pos (by omega), show (0 : Int) = ((0 : Nat) : Int) from rfl,
      posn_l1 t _ i ex hs cs hc (by simp; omega) (by omega) cs.length k 0 (rd t (i : Int)) (by omega) (by omega) (by omega) (by omega), List.drop_zero]
    have e : (List.range i).map (po (cs.map cvC) t) ++ [rd t (i : Int) + ow (cs.map cvC) (i : Int)] = (List.range (i + 1)).map (po (cs.map cvC) t) := by
      rw [List.range_succ, List.map_append]
      congr 1
      simp only [List.map_cons, List.map_nil]
      congr 1
      unfold po rd
      rw [show ((i : Int).toNat) = i from by omega]; omega
    rw [e]
    exact posn_l0 t ex hs cs hc hh hl ht d k (i + 1) (by omega) (by omega) (by omega)
theorem po_bd (cs : List S75) (t : List Int) (hc : okCs cs) (ht : ∀ x ∈ t, 0 ≤ x ∧ x ≤ 200) (i : Nat) : -100000 ≤ po cs t i ∧ po cs t i ≤ 100000 := by
  have h1 : 0 ≤ t.getD i 0 ∧ t.getD i 0 ≤ 200 := by
    by_cases h : i < t.length
    · have : t.getD i 0 = t[i] := by simp [h]
      rw [this]; exact ht _ (List.getElem_mem _)
    · have : t.getD i 0 = 0 := by simp [h]
      rw [this]; omega
  have h2 : ∀ (l : List S75), (∀ c ∈ l, 1 ≤ c.f2 ∧ c.f2 ≤ 200) → -(200 * (l.length : Int)) ≤ ow l i ∧ ow l i ≤ 200 * l.length := by
    intro l
    induction l with
    | nil => intro _; simp [ow]
    | cons c l ih =>
      intro hl
      have := ih (fun c hc => hl c (List.mem_cons_of_mem _ hc))
      have := hl c List.mem_cons_self
      simp only [ow, List.length_cons]
      split <;> split <;> omega
  have h3 := h2 cs (fun c h => ⟨(hc.2 c h).2.2.2.2.2.1, (hc.2 c h).2.2.2.2.2.2⟩)
  have := hc.1
  unfold po
  omega
theorem rneeds_l0 (ex : Int) (hs : List S88) (cs : List S101) (f : Nat → Int) (hf : ∀ i, -100000 ≤ f i ∧ f i ≤ 100000) (hh : hs.length ≤ 1000) : ∀ (d k i : Nat) (a b : List Int), hs.length - i = d → d < k → i ≤ hs.length → a.length = i → b.length = i →
    contangoref11_Needs.l0 k ((List.range hs.length).map f) a b (i : Int) ex hs cs = some (a ++ (List.range' i d).map (fun j => nd (f j)), b ++ (List.range' i d).map fun j => sp ((hs.map cvH).getD j z73).f1 (f j))
  | 0, k, i, a, b, hd, hk, hi, ha, hb => by
    obtain ⟨k, rfl⟩ : ∃ m, k = m + 1 := ⟨k - 1, by omega⟩
    rw [contangoref11_Needs.l0, if_neg (by simp; omega)]; simp
  | d + 1, k, i, a, b, hd, hk, hi, ha, hb => by
    obtain ⟨k, rfl⟩ : ∃ m, k = m + 1 := ⟨k - 1, by omega⟩
    have h : i < hs.length := by omega
    have hr : rd ((List.range hs.length).map f) (i : Int) = f i := by unfold rd; rw [show ((i : Int).toNat) = i from by omega]; simp [h]
    have hsx : ((hs.map cvH).getD i z73).f1 = (rd_T88 hs (i : Int)).f1 := by unfold rd_T88; rw [show ((i : Int).toNat) = i from by omega]; simp [h, cvH]
    have ih := fun a b ha hb => rneeds_l0 ex hs cs f hf hh d k (i + 1) a b (by omega) (by omega) (by omega) ha hb
    have hfi := hf i
    rw [contangoref11_Needs.l0, if_pos (by simp; omega), if_pos (by omega), hr, wsucc i (by omega), show List.range' i (d + 1) = i :: List.range' (i + 1) d from rfl]
    simp only [List.map_cons]
    rw [hsx]
    generalize f i = p at hfi ⊢
    generalize (rd_T88 hs (i : Int)).f1 = s
    have ew : wrap64 (-p) = -p := by unfold wrap64; omega
    rw [ew]
    have fin : ∀ (x y : Int), nd p = x → sp s p = y → contangoref11_Needs.l0 k ((List.range hs.length).map f) (a ++ [x]) (b ++ [y]) ((i + 1 : Nat) : Int) ex hs cs = some (a ++ nd p :: (List.range' (i + 1) d).map (fun j => nd (f j)), b ++ sp s p :: (List.range' (i + 1) d).map fun j => sp ((hs.map cvH).getD j z73).f1 (f j)) := by
      intro x y hx hy
      rw [ih _ _ (by simp [ha]) (by simp [hb]), hx, hy]
      simp
    by_cases h1 : p < 0
    · rw [if_pos h1, if_neg (by omega), if_pos (by omega), if_pos (by omega)]
      exact fin _ _ (by unfold nd; rw [if_pos h1]) (by unfold sp; split <;> first | rw [if_neg (by omega)] | rfl)
    · rw [if_neg h1]
      by_cases h2 : p > 0
      · rw [if_pos h2, if_pos (by omega)]
        cases s with
        | true =>
          rw [if_pos rfl, if_pos (by omega), if_pos (by omega)]
          exact fin _ _ (by unfold nd; rw [if_neg h1]) (by unfold sp; rw [if_pos rfl, if_pos h2])
        | false =>
          rw [if_neg (by simp), if_pos (by omega), if_pos (by omega)]
          exact fin _ _ (by unfold nd; rw [if_neg h1]) (by unfold sp; rw [if_neg (by simp)])
      · rw [if_neg h2, if_pos (by omega), if_pos (by omega)]
        exact fin _ _ (by unfold nd; rw [if_neg h1]) (by unfold sp; split <;> first | rw [if_neg (by omega)] | rfl)
theorem rneeds_f (k : Nat) (ex : Int) (hs : List S88) (cs : List S101) (t : List Int) (hck : ck ex (hs.map cvH) (cs.map cvC) = 0) (ht : isT ex (hs.map cvH) t = true) (hk : 60 < k) :
    contangoref11_Needs.f k ex hs cs t = some (ndL (cs.map cvC) t hs.length, spL (hs.map cvH) (cs.map cvC) t hs.length) := by
  obtain ⟨z1, z2, z3, z4, z5, z6, z7⟩ := ck_zero hck
  have hok := ck_okCs hck
  simp only [List.length_map] at z1 z2 z3
  unfold isT at ht
  rw [Bool.and_eq_true] at ht
  have hl : t.length = hs.length := by simpa using inHeld_length _ _ ht.1
  have hb : ∀ x ∈ t, 0 ≤ x ∧ x ≤ 200 := inHeld_okT _ _ ht.1 z6
  have hm : hs.length * (cs.length + 2) ≤ 6 * 10 := Nat.mul_le_mul z2 (by omega)
  unfold contangoref11_Needs.f contangoref11_Positions.f
  have h0 := posn_l0 t ex hs cs hok z2 hl hb hs.length k 0 (by omega) (by omega) (by omega)
  simp only [List.range_zero, List.map_nil] at h0
  rw [show (0 : Int) = ((0 : Nat) : Int) from rfl, h0]
  simp only [Option.bind_some]
  rw [rneeds_l0 ex hs cs (po (cs.map cvC) t) (po_bd _ t hok hb) (by omega) hs.length k 0 [] [] (by omega) (by omega) (by omega) rfl rfl]
  simp [ndL, spL, List.range_eq_range']
theorem before_l0 (a b : List Int) (ha : a.length ≤ 1000) : ∀ (d k i : Nat), a.length - i = d → 2 * d + 2 < k → i ≤ a.length → a.take i = b.take i →
    ∃ r, contangoref11_Before.l0 k a b (i : Int) = some r ∧ (a.length = b.length → a = b → r = false)
  | d, k, i, hd, hk, hi, he => by
    obtain ⟨k, rfl⟩ : ∃ m, k = m + 2 := ⟨k - 2, by omega⟩
    rw [contangoref11_Before.l0]
    by_cases h : i < a.length
    · rw [if_pos (by omega), contangoref11_Before.j1]
      by_cases h2 : i < b.length
      · rw [if_pos (by simp; omega), if_pos (by omega), if_pos (by omega), if_pos (by omega)]
        by_cases h3 : rd a (i : Int) = rd b (i : Int)
        · rw [if_pos h3, wsucc i (by omega)]
          refine before_l0 a b ha (a.length - (i + 1)) k (i + 1) rfl (by omega) (by omega) ?_
          have e1 : rd a (i : Int) = a[i] := by unfold rd; rw [show ((i : Int).toNat) = i from by omega]; simp [h]
          have e2 : rd b (i : Int) = b[i] := by unfold rd; rw [show ((i : Int).toNat) = i from by omega]; simp [h2]
          rw [List.take_succ_eq_append_getElem h, List.take_succ_eq_append_getElem h2, he, ← e1, ← e2, h3]
        · rw [if_neg h3]
          exact ⟨_, rfl, fun _ e => absurd (by rw [e]) h3⟩
      · rw [if_neg (by simp; omega)]
        exact ⟨_, rfl, fun e _ => by omega⟩
    · rw [if_neg (by omega), contangoref11_Before.j1, if_neg (by simp)]
      exact ⟨_, rfl, fun e _ => by simp [e]⟩
  termination_by d => d
  decreasing_by omega
theorem same_f (k : Nat) (a : List Int) (ha : a.length ≤ 100) (hk : 300 < k) : contangoref11_Same.f k a a = some true := by
  unfold contangoref11_Same.f contangoref11_Before.f
  obtain ⟨r, h1, h2⟩ := before_l0 a a (by omega) a.length k 0 (by omega) (by omega) (by omega) rfl
  rw [if_pos rfl, show (0 : Int) = ((0 : Nat) : Int) from rfl, h1, h2 rfl rfl]
  rfl
end Go.Proofs.Ytgjifkegfbpjkaa.Q
end
