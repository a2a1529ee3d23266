/- Plain laws: the smallest set that can be left out is the one that the statement finds. -/
import Derived.Test.YtgjifkegfbpjkaaVCkSets
import Derived.Test.YtgjifkegfbpjkaaVCkLeave
import Derived.Test.YtgjifkegfbpjkaaVCrLeave
section
namespace Go.Proofs.Ytgjifkegfbpjkaa.Q
set_option linter.unusedVariables false
set_option linter.unusedSimpArgs false
open Go.RowKit Go.Proofs.YtgjifkegfbpjkaaW.PrintWords Go.Proofs.YtgjifkegfbpjkaaW.PrintLast Go.Proofs.YtgjifkegfbpjkaaW.PrintMore
theorem bits_ok : ∀ b : Nat, b < 64 → ∀ i : Nat, i < 6 → (decide (Int.tmod (shr .i64 (b : Int) (IntKind.u64.wrap (i : Int))) 2 = 1)) = Nat.testBit b i := by decide +kernel
theorem u64_nn : ∀ i : Nat, i < 6 → 0 ≤ IntKind.u64.wrap (i : Int) := by decide +kernel
theorem shorter_f (k : Nat) (a b : List Int) (ha : a.length ≤ 20) (hb : b.length ≤ 20) (hk : 60 ≤ k) : contangoref11_Shorter.f k a b = some (shB a b) := by
  unfold contangoref11_Shorter.f shB
  by_cases h1 : a.length < b.length
  · rw [if_pos (by omega), decide_eq_true h1]; rfl
  · rw [if_neg (by omega), decide_eq_false h1]
    by_cases h2 : a.length = b.length
    · rw [if_pos (by omega), before_f k a b (by omega) (by omega) (by omega), decide_eq_true h2]; rfl
    · rw [if_neg (by omega), decide_eq_false h2]; rfl
def wo88 (ex : Int) (h : S88) : S88 := ⟨⟨0, ex⟩, h.f1, h.f2⟩
def woB (ex : Int) (hs : List S88) (b i : Nat) : S88 := if b.testBit i = true then wo88 ex (hs.getD i z88) else hs.getD i z88
theorem rd88_getD (hs : List S88) (i : Nat) (h : i < hs.length) : rd_T88 hs (i : Int) = hs.getD i z88 := by
  unfold rd_T88; rw [show ((i : Int).toNat) = i from by omega]
theorem setB_succ (n b : Nat) : setB (n + 1) b = if b.testBit n = true then setB n b ++ [(n : Int)] else setB n b := by
  unfold setB
  rw [List.range_succ, List.filter_append]
  cases h : b.testBit n
  · rw [if_neg (by simp)]; simp [h]
  · rw [if_pos rfl]; simp [h]
theorem without_l0 (ex : Int) (hs : List S88) (cs : List S101) (b : Nat) (hb : b < 64) (hn : hs.length ≤ 6) : ∀ (d k i : Nat), hs.length - i = d → d < k → i ≤ hs.length →
    contangoref11_Without.l0 k (b : Int) (setB i b) (i : Int) ex hs cs ex ((List.range i).map (woB ex hs b)) cs = some (ex, (List.range hs.length).map (woB ex hs b), cs, setB hs.length b)
  | d, 0, i, hd, hk, hi => by omega
  | d, k + 1, i, hd, hk, hi => by
    rw [contangoref11_Without.l0]
    by_cases h : i < hs.length
    · have hl : (setB i b).length ≤ 6 := by
        have := (setB_inc i b (fun _ => true) (fun _ _ _ => rfl)).len (by omega); omega
      have ih := without_l0 ex hs cs b hb hn (d - 1) k (i + 1) (by omega) (by omega) (by omega)
      have hbit := bits_ok b hb i (by omega)
      rw [setB_succ, List.range_succ, List.map_append] at ih
      rw [if_pos (by omega), if_pos (by omega), if_pos (u64_nn i (by omega)), wsucc i (by omega), rd88_getD hs i h]
      cases ht : b.testBit i with
      | true =>
        rw [ht] at hbit
        rw [if_pos (of_decide_eq_true hbit), if_pos (by omega), if_pos (by simp; omega)]
        rw [if_pos ht] at ih
        rw [show woB ex hs b = fun i => woB ex hs b i from rfl] at ih ⊢
        simp only [List.map_cons, List.map_nil] at ih
        rw [show woB ex hs b i = wo88 ex (hs.getD i z88) from by unfold woB; rw [if_pos ht]] at ih
        exact ih
      | false =>
        rw [ht] at hbit
        rw [if_neg (of_decide_eq_false hbit), if_pos (by simp; omega)]
        rw [if_neg (by rw [ht]; simp)] at ih
        simp only [List.map_cons, List.map_nil] at ih
        rw [show woB ex hs b i = hs.getD i z88 from by unfold woB; rw [if_neg (by rw [ht]; simp)]] at ih
        exact ih
    · rw [if_neg (by omega), show i = hs.length from by omega]
theorem without_f (k : Nat) (ex : Int) (hs : List S88) (cs : List S101) (b : Nat) (hb : b < 64) (hn : hs.length ≤ 6) (hk : 6 < k) : contangoref11_Without.f k ex hs cs (b : Int) = some (ex, (List.range hs.length).map (woB ex hs b), cs, setB hs.length b) := by
  unfold contangoref11_Without.f
  exact without_l0 ex hs cs b hb hn hs.length k 0 (by omega) (by omega) (by omega)
theorem has_l0 (ex : Int) (hs : List S88) (cs : List S101) (hn : hs.length ≤ 6) (hv : ∀ h ∈ hs, 0 ≤ h.f0.f0 ∧ h.f0.f0 ≤ 200 ∧ 0 ≤ h.f0.f1 ∧ h.f0.f1 ≤ 200) : ∀ (d k i : Nat) (a c : Int), hs.length - i = d → d < k → i ≤ hs.length → 0 ≤ a → a ≤ 200 * i → 0 ≤ c → c ≤ 200 * i →
    contangoref11_Has.l0 k a c (i : Int) ex hs cs = some (decide (a + sumLo ((hs.drop i).map cvH) ≤ ex ∧ ex ≤ c + sumHi ((hs.drop i).map cvH)))
  | d, 0, i, a, c, hd, hk, hi, h1, h2, h3, h4 => by omega
  | d, k + 1, i, a, c, hd, hk, hi, h1, h2, h3, h4 => by
    rw [contangoref11_Has.l0]
    by_cases h : i < hs.length
    · rw [if_pos (by omega), if_pos (by omega), drop_rd88 hs i h]
      have hx := hv (rd_T88 hs (i : Int)) (by have := drop_rd88 hs i h; exact List.mem_of_mem_drop (i := i) (by rw [this]; exact List.mem_cons_self))
      generalize rd_T88 hs (i : Int) = x at hx ⊢
      rw [show wrap64 (a + x.f0.f0) = a + x.f0.f0 from by unfold wrap64; omega, show wrap64 (c + x.f0.f1) = c + x.f0.f1 from by unfold wrap64; omega, wsucc i (by omega),
        has_l0 ex hs cs hn hv (d - 1) k (i + 1) _ _ (by omega) (by omega) (by omega) (by omega) (by omega) (by omega) (by omega)]
      congr 1
      refine dec_iff ?_
      simp only [List.map_cons, sumLo, sumHi, List.sum_cons, cvH, List.map_map]
      omega
    · rw [if_neg (by omega), List.drop_of_length_le (by omega), in_f]
      simp [sumLo, sumHi]
theorem has_f (k : Nat) (ex : Int) (hs : List S88) (cs : List S101) (hn : hs.length ≤ 6) (hv : ∀ h ∈ hs.map cvH, vH h = true) (hk : 6 < k) : contangoref11_Has.f k ex hs cs = some (pos ex (hs.map cvH)) := by
  unfold contangoref11_Has.f
  rw [show (0 : Int) = ((0 : Nat) : Int) from rfl, has_l0 ex hs cs hn ?_ hs.length k 0 _ _ (by omega) (by omega) (by omega) (by omega) (by omega) (by omega) (by omega)]
  · unfold pos; simp
  · intro h hh
    have := (vH_iff _).1 (hv (cvH h) (List.mem_map.2 ⟨h, hh, rfl⟩))
    simp only [cvH] at this
    omega
theorem woL_getD (ex : Int) : ∀ (l : List Int) (hs : List S73) (j : Nat), j < hs.length → (∀ x ∈ l, 0 ≤ x) →
    (woL ex hs l).getD j z73 = if (j : Int) ∈ l then wo1 ex (hs.getD j z73) else hs.getD j z73
  | [], hs, j, hj, _ => by simp [woL]
  | x :: l, hs, j, hj, hl => by
    have ih := woL_getD ex l (woP ex hs x) j (by simp [woP]; exact hj) (fun y hy => hl y (List.mem_cons_of_mem _ hy))
    have h0 := hl x List.mem_cons_self
    have e : (woP ex hs x).getD j z73 = if (j : Int) = x then wo1 ex (hs.getD j z73) else hs.getD j z73 := by
      unfold woP
      by_cases hx : (j : Int) = x
      · rw [if_pos hx, show x.toNat = j from by omega]
        simp [List.getD_eq_getElem?_getD, hj]
      · rw [if_neg hx]
        simp only [List.getD_eq_getElem?_getD]
        rw [List.getElem?_set_ne (by omega)]
    rw [show woL ex hs (x :: l) = woL ex (woP ex hs x) l from rfl, ih, e]
    by_cases hx : (j : Int) = x
    · rw [if_pos hx, if_pos (show (j : Int) ∈ x :: l by rw [hx]; exact List.mem_cons_self)]
      split <;> rfl
    · rw [if_neg hx]
      by_cases hm : (j : Int) ∈ l
      · rw [if_pos hm, if_pos (List.mem_cons_of_mem _ hm)]
      · rw [if_neg hm, if_neg (by simp [hx, hm])]
theorem ext73 (a b : List S73) (h : a.length = b.length) (he : ∀ j, j < a.length → a.getD j z73 = b.getD j z73) : a = b := by
  refine List.ext_getElem h fun j h1 h2 => ?_
  have := he j h1
  simpa [h1, h2] using this
theorem setB_nonneg (n b : Nat) : ∀ x ∈ setB n b, 0 ≤ x := by
  intro x hx
  obtain ⟨i, h, _⟩ := inc_mem (setB_inc n b (fun _ => true) (fun _ _ _ => rfl)) x hx
  omega
theorem wo_same (ex : Int) (hs : List S88) (b : Nat) : ((List.range hs.length).map (woB ex hs b)).map cvH = woL ex (hs.map cvH) (setB hs.length b) := by
  refine ext73 _ _ (by simp [woL_length]) fun j hj => ?_
  have hj' : j < hs.length := by simpa using hj
  rw [woL_getD ex _ _ j (by simpa using hj') (setB_nonneg _ _)]
  have e1 : (((List.range hs.length).map (woB ex hs b)).map cvH).getD j z73 = cvH (woB ex hs b j) := by simp [hj']
  have e2 : (hs.map cvH).getD j z73 = cvH (hs.getD j z88) := by simp [hj']
  rw [e1, e2]
  unfold woB
  cases ht : b.testBit j with
  | true => rw [if_pos rfl, if_pos ((setB_mem _ _ _).2 ⟨hj', ht⟩)]; rfl
  | false => rw [if_neg (by simp), if_neg (fun h => by rw [((setB_mem _ _ _).1 h).2] at ht; cases ht)]
def lvP (ex : Int) (H : List S73) (l : List Int) : Bool := pos ex (woL ex H l)
theorem lvn_fst (ex : Int) (H : List S73) : ∀ (m : Nat) (l : List Int) (from_ : Nat), lvn ex H m l from_ = fstP H.length (fun _ => true) (lvP ex H) m l from_
  | 0, l, from_ => rfl
  | m + 1, l, from_ => by
    unfold lvn fstP
    congr 1
    funext i
    rw [if_pos rfl]
    exact lvn_fst ex H m _ _
theorem lvFrom_least (ex : Int) (H : List S73) : Least H.length (fun _ => true) (lvP ex H) (lvFrom ex H 0) := by
  have h := least_all H.length (fun _ => true) (lvP ex H)
  unfold lvFrom
  rw [show (fun m => lvn ex H m [] 0) = fun m => fstP H.length (fun _ => true) (lvP ex H) m [] 0 from funext fun m => lvn_fst ex H m [] 0]
  exact h
theorem lvGo_best (ex : Int) (hs : List S88) (cs : List S101) (hn : hs.length ≤ 6) (he : 1 ≤ ex ∧ ex ≤ 200) (hv : ∀ h ∈ hs.map cvH, vH h = true) (lim : Nat) (hlim : lim ≤ 64) : ∀ (d k b : Nat) (best : List Int), lim - b = d → d < k → b ≤ lim → best.length ≤ 6 →
    lvGo ex hs cs k (lim : Int) (b : Int) best = bestB (setB hs.length) (fun b => lvP ex (hs.map cvH) (setB hs.length b)) d (some best) b
  | d, 0, b, best, hd, hk, hb, hl => by omega
  | d, k + 1, b, best, hd, hk, hb, hl => by
    rw [lvGo]
    by_cases h : b < lim
    · obtain ⟨d, rfl⟩ : ∃ m, d = m + 1 := ⟨d - 1, by omega⟩
      have hlen : (setB hs.length b).length ≤ 6 := by
        have := (setB_inc hs.length b (fun _ => true) (fun _ _ _ => rfl)).len (by omega); omega
      have ih := fun best hb => lvGo_best ex hs cs hn he hv lim hlim d k (b + 1) best (by omega) (by omega) (by omega) hb
      rw [if_pos (by omega), without_f 64 ex hs cs b (by omega) hn (by omega), Option.bind_some, shorter_f 64 _ _ (by simpa using by omega) (by omega) (by omega), Option.bind_some, wsucc b (by omega)]
      rw [bestB]
      simp only []
      have hhas := has_f 64 ex ((List.range hs.length).map (woB ex hs b)) cs (by simpa using hn) (by rw [wo_same]; exact woL_vH ex he _ _ hv) (by omega)
      rw [wo_same] at hhas
      cases hs1 : shB (setB hs.length b) best with
      | true =>
        rw [if_pos rfl, hhas, Option.bind_some]
        cases hp : lvP ex (hs.map cvH) (setB hs.length b) with
        | true => rw [if_pos (show pos ex (woL ex (hs.map cvH) (setB hs.length b)) = true from hp), if_pos rfl, if_pos rfl]; exact ih _ hlen
        | false => rw [if_neg (by rw [show pos ex (woL ex (hs.map cvH) (setB hs.length b)) = false from hp]; simp), if_neg (by simp)]; exact ih _ hl
      | false =>
        rw [if_neg (by simp)]
        rw [show (if lvP ex (hs.map cvH) (setB hs.length b) = true then (if false = true then some (setB hs.length b) else some best) else some best) = some best from by split <;> rfl]
        exact ih _ hl
    · obtain rfl : d = 0 := by omega
      rw [if_neg (by omega)]; rfl
theorem allB_eq : ∀ n : Nat, n ≤ 6 → allB n = ((2 ^ n - 1 : Nat) : Int) := by decide +kernel
theorem pow_le : ∀ n : Nat, n ≤ 6 → 2 ^ n ≤ 64 := by decide +kernel
theorem all_bits : ∀ n : Nat, n ≤ 6 → ∀ i : Nat, i < n → (2 ^ n - 1).testBit i = true := by decide +kernel
theorem sum_full (ex : Int) : ∀ (H : List S73), (∀ h ∈ H, h.f0.f0 = 0 ∧ h.f0.f1 = ex) → sumLo H = 0 ∧ sumHi H = H.length * ex
  | [], _ => by simp [sumLo, sumHi]
  | h :: H, hh => by
    have ih := sum_full ex H (fun x hx => hh x (List.mem_cons_of_mem _ hx))
    have h0 := hh h List.mem_cons_self
    unfold sumLo sumHi at ih ⊢
    simp only [List.map_cons, List.sum_cons, List.length_cons]
    rw [ih.1, ih.2, h0.1, h0.2]
    refine ⟨by omega, ?_⟩
    have : ((H.length + 1 : Nat) : Int) * ex = H.length * ex + ex := by rw [Int.natCast_add]; simp [Int.add_mul]
    omega
theorem full_ok (ex : Int) (hs : List S88) (hn : hs.length ≤ 6) (h0 : 0 < hs.length) (he : 1 ≤ ex) : lvP ex (hs.map cvH) (setB hs.length (2 ^ hs.length - 1)) = true := by
  unfold lvP pos
  have hf := sum_full ex (woL ex (hs.map cvH) (setB hs.length (2 ^ hs.length - 1))) (by
    rw [← wo_same]
    intro h hh
    simp only [List.mem_map, List.mem_range] at hh
    obtain ⟨y, ⟨i, hi, rfl⟩, rfl⟩ := hh
    unfold woB
    rw [if_pos (all_bits _ hn i hi)]
    exact ⟨rfl, rfl⟩)
  rw [hf.1, hf.2, woL_length, List.length_map]
  refine decide_eq_true ⟨by omega, ?_⟩
  have : (1 : Int) * ex ≤ hs.length * ex := Int.mul_le_mul_of_nonneg_right (by omega) (by omega)
  omega
theorem leave_f (ex : Int) (hs : List S88) (cs : List S101) (hck : ck ex (hs.map cvH) (cs.map cvC) = 0) : ∃ l, contangoref11_Leave.f ex hs cs = some l ∧ corner_Leave.f ex (hs.map cvH) (cs.map cvC) = some (l, 0) ∧ l.length ≤ 6 := by
  obtain ⟨z1, z2, z3, z4, z5, z6, z7⟩ := ck_zero hck
  simp only [List.length_map] at z1 z2 z3
  have hp := pow_le hs.length z2
  have hp0 : 0 < 2 ^ hs.length := Nat.two_pow_pos _
  have hfull := full_ok ex hs z2 (by omega) z4
  have hlen : ∀ b, (setB hs.length b).length ≤ 6 := fun b => by
    have := (setB_inc hs.length b (fun _ => true) (fun _ _ _ => rfl)).len (by omega); omega
  have hgo := lvGo_best ex hs cs z2 ⟨z4, z5⟩ z6 (2 ^ hs.length - 1) (by omega) (2 ^ hs.length - 1) 1024 0 (setB hs.length (2 ^ hs.length - 1)) (by omega) (by omega) (by omega) (hlen _)
  have hb := bst_all (setB hs.length) (fun b => lvP ex (hs.map cvH) (setB hs.length b)) (fun x => x = setB hs.length (2 ^ hs.length - 1)) (2 ^ hs.length - 1) 0 (some (setB hs.length (2 ^ hs.length - 1)))
    ⟨.inl rfl, fun b hb => by omega, fun x hx => by rw [hx]; exact shB_irrefl _⟩
  rw [Nat.zero_add] at hb
  have key : Least (hs.map cvH).length (fun _ => true) (lvP ex (hs.map cvH)) (bestB (setB hs.length) (fun b => lvP ex (hs.map cvH) (setB hs.length b)) (2 ^ hs.length - 1) (some (setB hs.length (2 ^ hs.length - 1))) 0) := by
    rw [List.length_map]
    revert hb
    generalize bestB (setB hs.length) (fun b => lvP ex (hs.map cvH) (setB hs.length b)) (2 ^ hs.length - 1) (some (setB hs.length (2 ^ hs.length - 1))) 0 = best
    intro hb
    cases best with
    | none => exact absurd rfl (hb.2 _)
    | some r =>
      obtain ⟨b1, b2, b3⟩ := hb
      have hr : ∃ b, r = setB hs.length b ∧ lvP ex (hs.map cvH) r = true := by
        rcases b1 with h | ⟨b, h1, h2, h3⟩
        · exact ⟨_, h, by rw [h]; exact hfull⟩
        · exact ⟨b, h3, by rw [h3]; exact h2⟩
      obtain ⟨b0, hr0, hr1⟩ := hr
      refine ⟨by rw [hr0]; exact setB_inc _ _ _ (fun _ _ _ => rfl), hr1, ?_⟩
      intro s hs1 hs2
      obtain ⟨b, c1, c2⟩ := inc_setB _ _ _ hs1
      by_cases e : b < 2 ^ hs.length - 1
      · rw [← c2]; exact b2 b e (by show lvP ex (hs.map cvH) (setB hs.length b) = true; rw [c2]; exact hs2)
      · obtain rfl : b = 2 ^ hs.length - 1 := by omega
        exact b3 s c2.symm
  have hone := least_one (lvFrom_least ex (hs.map cvH)) key
  have hleave : contangoref11_Leave.f ex hs cs = bestB (setB hs.length) (fun b => lvP ex (hs.map cvH) (setB hs.length b)) (2 ^ hs.length - 1) (some (setB hs.length (2 ^ hs.length - 1))) 0 := by
    unfold contangoref11_Leave.f
    rw [allB_eq hs.length z2, without_f 64 ex hs cs _ (by omega) z2 (by omega), Option.bind_some]
    exact hgo
  rw [← hone] at key
  cases e : lvFrom ex (hs.map cvH) 0 with
  | none =>
    rw [e] at key
    have := key _ (setB_inc (hs.map cvH).length (2 ^ hs.length - 1) (fun _ => true) (fun _ _ _ => rfl))
    rw [List.length_map, hfull] at this; cases this
  | some l =>
    rw [e] at key hone
    refine ⟨l, by rw [hleave, ← hone], ?_, ?_⟩
    · unfold corner_Leave.f; rw [if_pos hck, e]; rfl
    · have := key.1.len (by omega)
      rw [List.length_map] at this; omega
theorem leave_bad (ex : Int) (H : List S73) (C : List S75) (hck : ck ex H C ≠ 0) : corner_Leave.f ex H C = some ([], ck ex H C) := by
  unfold corner_Leave.f; rw [if_neg hck]
end Go.Proofs.Ytgjifkegfbpjkaa.Q
end
