/- Plain laws: all lists of holdings are gone through, and so the bounds are those of the search. -/
import Derived.Test.YtgjifkegfbpjkaaXCkLack
section
namespace Go.Proofs.Ytgjifkegfbpjkaa.Q
set_option linter.unusedVariables false
set_option linter.unusedSimpArgs false
open Go.RowKit Go.Proofs.YtgjifkegfbpjkaaW.PrintWords Go.Proofs.YtgjifkegfbpjkaaW.PrintLast Go.Proofs.YtgjifkegfbpjkaaW.PrintMore
def wid (h : S73) : Nat := (h.f0.f1 - h.f0.f0 + 1).toNat
def mny : Nat → List S73 → Nat
  | p, [] => p
  | p, h :: D => if p ≤ 100000 then mny (p * wid h) D else p
def prd : List S73 → Nat
  | [] => 1
  | h :: D => wid h * prd D
theorem mny_prd : ∀ (D : List S73) (p : Nat), mny p D ≤ 100000 → mny p D = p * prd D
  | [], p, _ => by simp [mny, prd]
  | h :: D, p, hm => by
    unfold mny at hm ⊢
    by_cases e : p ≤ 100000
    · rw [if_pos e] at hm ⊢
      rw [mny_prd D _ hm, prd, Nat.mul_assoc]
    · rw [if_neg e] at hm; exact absurd hm e
theorem drop_last_drop (l : List S88) (i : Nat) (h : i + 1 < l.length) : (l.dropLast.drop i).map cvH = cvH (rd_T88 l (i : Int)) :: (l.dropLast.drop (i + 1)).map cvH := by
  have h1 : i < l.dropLast.length := by simp; omega
  rw [List.drop_eq_getElem_cons h1, List.map_cons]
  congr 1
  rw [List.getElem_dropLast]
  unfold rd_T88; rw [show ((i : Int).toNat) = i from by omega]; simp [show i < l.length by omega]
theorem wid_wrap (h : S73) (hv : vH h = true) : wrap64 (wrap64 (h.f0.f1 - h.f0.f0) + 1) = (wid h : Int) ∧ 1 ≤ wid h ∧ wid h ≤ 201 := by
  have := (vH_iff h).1 hv
  unfold wid wrap64
  omega
theorem many_l0 (ex : Int) (hs : List S88) (cs : List S101) (hn : hs.length ≤ 1000) (h0 : 0 < hs.length) (hv : ∀ h ∈ hs.map cvH, vH h = true) : ∀ (d k i p : Nat), hs.length - 1 - i = d → d < k → i ≤ hs.length - 1 → p ≤ 20100000 →
    contangoref11_Many.l0 k (p : Int) (i : Int) ex hs cs = some ((mny p ((hs.dropLast.drop i).map cvH) : Nat) : Int)
  | d, 0, i, p, hd, hk, hi, hp => by omega
  | d, k + 1, i, p, hd, hk, hi, hp => by
    rw [contangoref11_Many.l0, show wrap64 ((hs.length : Int) - 1) = ((hs.length - 1 : Nat) : Int) from by unfold wrap64; omega]
    by_cases h : i + 1 < hs.length
    · have hw := wid_wrap (cvH (rd_T88 hs (i : Int))) (hv _ (List.mem_map.2 ⟨_, by have := drop_rd88 hs i (by omega); exact List.mem_of_mem_drop (i := i) (by rw [this]; exact List.mem_cons_self), rfl⟩))
      rw [if_pos (by omega), drop_last_drop hs i h, mny]
      by_cases hp2 : p ≤ 100000
      · rw [if_pos (by omega), if_pos (by omega), if_pos (by omega), if_pos hp2, wsucc i (by omega)]
        have e : wrap64 (wrap64 ((rd_T88 hs (i : Int)).f0.f1 - (rd_T88 hs (i : Int)).f0.f0) + 1) = (wid (cvH (rd_T88 hs (i : Int))) : Int) := hw.1
        have hb : p * wid (cvH (rd_T88 hs (i : Int))) ≤ 100000 * 201 := Nat.mul_le_mul hp2 hw.2.2
        rw [e, show wrap64 ((p : Int) * (wid (cvH (rd_T88 hs (i : Int))) : Int)) = ((p * wid (cvH (rd_T88 hs (i : Int))) : Nat) : Int) from by rw [Int.natCast_mul]; have : (p : Int) * (wid (cvH (rd_T88 hs (i : Int))) : Int) = ((p * wid (cvH (rd_T88 hs (i : Int))) : Nat) : Int) := (Int.natCast_mul _ _).symm; rw [this]; unfold wrap64; omega]
        exact many_l0 ex hs cs hn h0 hv (d - 1) k (i + 1) _ (by omega) (by omega) (by omega) (by omega)
      · rw [if_neg (by omega), if_neg hp2]
    · rw [if_neg (by omega), List.drop_of_length_le (by simp; omega)]; rfl
theorem many_f (k : Nat) (ex : Int) (hs : List S88) (cs : List S101) (hn : hs.length ≤ 1000) (h0 : 0 < hs.length) (hv : ∀ h ∈ hs.map cvH, vH h = true) (hk : hs.length < k) : contangoref11_Many.f k ex hs cs = some ((mny 1 (hs.dropLast.map cvH) : Nat) : Int) := by
  unfold contangoref11_Many.f
  have := many_l0 ex hs cs hn h0 hv (hs.length - 1) k 0 1 (by omega) (by omega) (by omega) (by omega)
  rw [List.drop_zero] at this
  exact this
def nthL : List S73 → Nat → Int → List Int
  | [], _, left => [left]
  | h :: D, n, left => (h.f0.f0 + (n % wid h : Nat)) :: nthL D (n / wid h) (left - (h.f0.f0 + (n % wid h : Nat)))
theorem tm_nat (n r : Nat) : Int.tmod (n : Int) (r : Int) = ((n % r : Nat) : Int) := rfl
theorem td_nat (n r : Nat) : Int.tdiv (n : Int) (r : Int) = ((n / r : Nat) : Int) := rfl
theorem nth_l0 (ex : Int) (hs : List S88) (cs : List S101) (hn : hs.length ≤ 100) (h0 : 0 < hs.length) (hv : ∀ h ∈ hs.map cvH, vH h = true) : ∀ (d k i n : Nat) (out : List Int) (left : Int), hs.length - 1 - i = d → d < k → i ≤ hs.length - 1 → out.length ≤ i → n ≤ 1000000 → 1 - 1000 * (i : Int) ≤ left → left ≤ 1000 →
    contangoref11_Nth.l0 k (n : Int) out left (i : Int) ex hs cs = some (out ++ nthL ((hs.dropLast.drop i).map cvH) n left)
  | d, 0, i, n, out, left, hd, hk, hi, ho, hp, h1, h2 => by omega
  | d, k + 1, i, n, out, left, hd, hk, hi, ho, hp, h1, h2 => by
    rw [contangoref11_Nth.l0, show wrap64 ((hs.length : Int) - 1) = ((hs.length - 1 : Nat) : Int) from by unfold wrap64; omega]
    by_cases h : i + 1 < hs.length
    · have hvi := hv (cvH (rd_T88 hs (i : Int))) (List.mem_map.2 ⟨_, by have := drop_rd88 hs i (by omega); exact List.mem_of_mem_drop (i := i) (by rw [this]; exact List.mem_cons_self), rfl⟩)
      have hw := wid_wrap _ hvi
      have hh := (vH_iff _).1 hvi
      rw [if_pos (by omega), drop_last_drop hs i h, nthL]
      have e : wrap64 (wrap64 ((rd_T88 hs (i : Int)).f0.f1 - (rd_T88 hs (i : Int)).f0.f0) + 1) = (wid (cvH (rd_T88 hs (i : Int))) : Int) := hw.1
      have e0 : (rd_T88 hs (i : Int)).f0.f0 = (cvH (rd_T88 hs (i : Int))).f0.f0 := rfl
      rw [e, e0]
      generalize cvH (rd_T88 hs (i : Int)) = c at hw hh ⊢
      rw [tm_nat, td_nat]
      have hmod : n % wid c < wid c := Nat.mod_lt _ (by omega)
      have hdiv : n / wid c ≤ n := Nat.div_le_self _ _
      generalize n % wid c = m at hmod ⊢
      generalize n / wid c = q at hdiv ⊢
      rw [if_pos (by omega), if_pos (by omega), if_neg (by omega), if_pos (by omega), wsucc i (by omega),
        show wrap64 (c.f0.f0 + (m : Int)) = c.f0.f0 + m from wrap_in64' _ (by omega) (by omega),
        show wrap64 (left - (c.f0.f0 + (m : Int))) = left - (c.f0.f0 + m) from wrap_in64' _ (by omega) (by omega),
        show wrap64 (q : Int) = (q : Int) from wrap_in64' _ (by omega) (by omega),
        nth_l0 ex hs cs hn h0 hv (d - 1) k (i + 1) _ _ _ (by omega) (by omega) (by omega) (by simp; omega) (by omega) (by omega) (by omega)]
      simp
    · rw [if_neg (by omega), List.drop_of_length_le (by simp; omega), if_pos (by omega)]; rfl
theorem nth_f (k : Nat) (ex : Int) (hs : List S88) (cs : List S101) (n : Nat) (hn : hs.length ≤ 100) (h0 : 0 < hs.length) (hv : ∀ h ∈ hs.map cvH, vH h = true) (he : 1 ≤ ex ∧ ex ≤ 200) (hp : n ≤ 1000000) (hk : hs.length < k) :
    contangoref11_Nth.f k ex hs cs (n : Int) = some (nthL (hs.dropLast.map cvH) n ex) := by
  unfold contangoref11_Nth.f
  have := nth_l0 ex hs cs hn h0 hv (hs.length - 1) k 0 n [] ex (by omega) (by omega) (by omega) (by simp) hp (by omega) (by omega)
  rw [List.drop_zero] at this
  exact this
theorem nth_all : ∀ (D : List S73) (l : S73) (t : List Int) (left : Int), inHeld (D ++ [l]) t = true → t.sum = left → ∃ n, n < prd D ∧ nthL D n left = t
  | [], l, t, left, ht, hs => by
    match t, ht with
    | [x], ht => exact ⟨0, by simp [prd], by simp [nthL]; simpa using hs.symm⟩
    | [], ht => simp [inHeld] at ht
    | _ :: _ :: _, ht => simp [inHeld] at ht
  | h :: D, l, t, left, ht, hs => by
    match t, ht with
    | [], ht => simp [inHeld] at ht
    | x :: t, ht =>
      rw [List.cons_append] at ht
      simp only [inHeld, Bool.and_eq_true, decide_eq_true_eq] at ht
      simp only [List.sum_cons] at hs
      obtain ⟨n, h1, h2⟩ := nth_all D l t (left - x) ht.2 (by omega)
      have hw : (x - h.f0.f0).toNat < wid h := by unfold wid; omega
      refine ⟨(x - h.f0.f0).toNat + wid h * n, ?_, ?_⟩
      · rw [prd]
        calc (x - h.f0.f0).toNat + wid h * n < wid h + wid h * n := by omega
          _ = wid h * (n + 1) := by rw [Nat.mul_succ]; omega
          _ ≤ wid h * prd D := Nat.mul_le_mul_left _ h1
      · unfold nthL
        rw [Nat.add_mul_mod_self_left, Nat.mod_eq_of_lt hw, Nat.add_mul_div_left _ _ (by omega), Nat.div_eq_of_lt hw, Nat.zero_add,
          show h.f0.f0 + ((x - h.f0.f0).toNat : Int) = x from by omega, h2]
def bAcc (T : Nat → Bool) (s : Nat → Int) : Nat → Bool × Int × Int
  | 0 => (false, 0, 0)
  | n + 1 => if T n = true then (if (bAcc T s n).1 = true then (true, mn (bAcc T s n).2.1 (s n), mx (bAcc T s n).2.2 (s n)) else (true, mn (s n) (s n), mx (s n) (s n))) else bAcc T s n
theorem mn_le (a b : Int) : mn a b ≤ a ∧ mn a b ≤ b ∧ (mn a b = a ∨ mn a b = b) := by unfold mn; split <;> omega
theorem mx_ge (a b : Int) : a ≤ mx a b ∧ b ≤ mx a b ∧ (mx a b = a ∨ mx a b = b) := by unfold mx; split <;> omega
theorem bAcc_no (T : Nat → Bool) (s : Nat → Int) : ∀ n, (bAcc T s n).1 = false → bAcc T s n = (false, 0, 0) ∧ ∀ k, k < n → T k = false
  | 0, _ => ⟨rfl, fun k h => by omega⟩
  | n + 1, h => by
    unfold bAcc at h ⊢
    cases ht : T n with
    | true => rw [ht, if_pos rfl] at h; split at h <;> cases h
    | false =>
      rw [ht, if_neg (by simp)] at h
      rw [if_neg (by simp)]
      obtain ⟨h1, h2⟩ := bAcc_no T s n h
      refine ⟨h1, fun k hk => ?_⟩
      by_cases e : k = n
      · rw [e]; exact ht
      · exact h2 k (by omega)
theorem bAcc_yes (T : Nat → Bool) (s : Nat → Int) : ∀ n, (bAcc T s n).1 = true → (∃ k, k < n ∧ T k = true ∧ s k = (bAcc T s n).2.1) ∧ (∃ k, k < n ∧ T k = true ∧ s k = (bAcc T s n).2.2) ∧ ∀ k, k < n → T k = true → (bAcc T s n).2.1 ≤ s k ∧ s k ≤ (bAcc T s n).2.2
  | 0, h => by cases h
  | n + 1, h => by
    unfold bAcc at h ⊢
    cases ht : T n with
    | true =>
      rw [if_pos rfl]
      cases hb : (bAcc T s n).1 with
      | true =>
        rw [if_pos rfl]
        obtain ⟨⟨k1, a1, a2, a3⟩, ⟨k2, b1, b2, b3⟩, c⟩ := bAcc_yes T s n hb
        have m1 := mn_le (bAcc T s n).2.1 (s n)
        have m2 := mx_ge (bAcc T s n).2.2 (s n)
        refine ⟨?_, ?_, ?_⟩
        · rcases m1.2.2 with e | e
          · exact ⟨k1, by omega, a2, by simp only []; rw [e]; exact a3⟩
          · exact ⟨n, by omega, ht, by simp only []; rw [e]⟩
        · rcases m2.2.2 with e | e
          · exact ⟨k2, by omega, b2, by simp only []; rw [e]; exact b3⟩
          · exact ⟨n, by omega, ht, by simp only []; rw [e]⟩
        · intro k hk hT
          by_cases e : k = n
          · rw [e]; exact ⟨m1.2.1, m2.2.1⟩
          · have := c k (by omega) hT
            exact ⟨Int.le_trans m1.1 this.1, Int.le_trans this.2 m2.1⟩
      | false =>
        rw [if_neg (by simp)]
        have hn := (bAcc_no T s n hb).2
        have m1 := mn_le (s n) (s n)
        have m2 := mx_ge (s n) (s n)
        refine ⟨⟨n, by omega, ht, by simp only []; omega⟩, ⟨n, by omega, ht, by simp only []; omega⟩, ?_⟩
        intro k hk hT
        by_cases e : k = n
        · rw [e]; exact ⟨m1.1, m2.1⟩
        · rw [hn k (by omega)] at hT; cases hT
    | false =>
      rw [ht, if_neg (by simp)] at h
      rw [if_neg (by simp)]
      obtain ⟨⟨k1, a1, a2, a3⟩, ⟨k2, b1, b2, b3⟩, c⟩ := bAcc_yes T s n h
      refine ⟨⟨k1, by omega, a2, a3⟩, ⟨k2, by omega, b2, b3⟩, fun k hk hT => ?_⟩
      by_cases e : k = n
      · rw [e, ht] at hT; cases hT
      · exact c k (by omega) hT
section
variable (ex : Int) (hs : List S88) (cs : List S101)
def bT (n : Nat) : Bool := isT ex (hs.map cvH) (nthL (hs.dropLast.map cvH) n ex)
def bS (n : Nat) : Int := lkS false (cs.map cvC) (hs.map cvH) 0 (nthL (hs.dropLast.map cvH) n ex)
theorem bounds_l0 (hck : ck ex (hs.map cvH) (cs.map cvC) = 0) (hM : mny 1 (hs.dropLast.map cvH) ≤ 100000) : ∀ (d k n : Nat), mny 1 (hs.dropLast.map cvH) - n = d → d + 100 < k → n ≤ mny 1 (hs.dropLast.map cvH) →
    contangoref11_Bounds.l0 k (bAcc (bT ex hs) (bS ex hs cs) n).1 (n : Int) ex hs cs (bAcc (bT ex hs) (bS ex hs cs) n).2.1 (bAcc (bT ex hs) (bS ex hs cs) n).2.2 =
      some ((bAcc (bT ex hs) (bS ex hs cs) (mny 1 (hs.dropLast.map cvH))).2.1, (bAcc (bT ex hs) (bS ex hs cs) (mny 1 (hs.dropLast.map cvH))).2.2, (bAcc (bT ex hs) (bS ex hs cs) (mny 1 (hs.dropLast.map cvH))).1)
  | d, 0, n, hd, hk, hn => by omega
  | d, k + 1, n, hd, hk, hn => by
    obtain ⟨z1, z2, z3, z4, z5, z6, z7⟩ := ck_zero hck
    simp only [List.length_map] at z1 z2 z3
    rw [contangoref11_Bounds.l0, many_f k ex hs cs (by omega) z1 z6 (by omega), Option.bind_some]
    by_cases h : n < mny 1 (hs.dropLast.map cvH)
    · rw [if_pos (by omega), nth_f k ex hs cs n (by omega) z1 z6 ⟨z4, z5⟩ (by omega) (by omega), Option.bind_some, istruth_f k ex hs cs _ (by omega) z6 (by omega), Option.bind_some, wsucc n (by omega)]
      have ih := bounds_l0 hck hM (d - 1) k (n + 1) (by omega) (by omega) (by omega)
      have est : bAcc (bT ex hs) (bS ex hs cs) (n + 1) = if bT ex hs n = true then (if (bAcc (bT ex hs) (bS ex hs cs) n).1 = true then (true, mn (bAcc (bT ex hs) (bS ex hs cs) n).2.1 (bS ex hs cs n), mx (bAcc (bT ex hs) (bS ex hs cs) n).2.2 (bS ex hs cs n)) else (true, mn (bS ex hs cs n) (bS ex hs cs n), mx (bS ex hs cs n) (bS ex hs cs n))) else bAcc (bT ex hs) (bS ex hs cs) n := rfl
      cases ht : bT ex hs n with
      | true =>
        rw [if_pos (show isT ex (hs.map cvH) (nthL (hs.dropLast.map cvH) n ex) = true from ht), short_f k ex hs cs _ hck ht (by omega), Option.bind_some]
        rw [est, if_pos ht] at ih
        cases hb : (bAcc (bT ex hs) (bS ex hs cs) n).1 with
        | true =>
          rw [if_pos rfl]
          rw [if_pos hb] at ih
          exact ih
        | false =>
          rw [if_neg (by simp)]
          rw [if_neg (by rw [hb]; simp)] at ih
          exact ih
      | false =>
        rw [if_neg (show ¬ isT ex (hs.map cvH) (nthL (hs.dropLast.map cvH) n ex) = true from by show ¬ bT ex hs n = true; rw [ht]; simp)]
        rw [est, if_neg (by rw [ht]; simp)] at ih
        exact ih
    · rw [if_neg (by omega), show n = mny 1 (hs.dropLast.map cvH) from by omega]
theorem bounds_f (k : Nat) (hck : ck ex (hs.map cvH) (cs.map cvC) = 0) (hM : mny 1 (hs.dropLast.map cvH) ≤ 100000) (hk : 100200 < k) :
    contangoref11_Bounds.f k ex hs cs = some (shortR ex (hs.map cvH) (cs.map cvC)) := by
  obtain ⟨z1, z2, z3, z4, z5, z6, z7⟩ := ck_zero hck
  have hok := ck_okCs hck
  simp only [List.length_map] at z1 z2 z3
  have hl := bounds_l0 ex hs cs hck hM (mny 1 (hs.dropLast.map cvH)) k 0 (by omega) (by omega) (by omega)
  unfold contangoref11_Bounds.f
  rw [show contangoref11_Bounds.l0 k false 0 ex hs cs 0 0 = _ from hl]
  have hcat : hs.map cvH = hs.dropLast.map cvH ++ [cvH (hs.getLast (by intro h; rw [h] at z1; simp at z1))] := by
    rw [← List.map_singleton, ← List.map_append, List.dropLast_concat_getLast]
  have hprd : mny 1 (hs.dropLast.map cvH) = prd (hs.dropLast.map cvH) := by rw [mny_prd _ _ hM, Nat.one_mul]
  have all : ∀ t, isT ex (hs.map cvH) t = true → ∃ n, n < mny 1 (hs.dropLast.map cvH) ∧ nthL (hs.dropLast.map cvH) n ex = t := by
    intro t ht
    unfold isT at ht
    rw [Bool.and_eq_true, decide_eq_true_eq] at ht
    rw [hprd]
    exact nth_all _ _ t ex (by rw [← hcat]; exact ht.1) ht.2
  have tr : ∀ up, lst up (cs.map cvC) (hs.map cvH) 0 ex ≠ nev → ∃ n, n < mny 1 (hs.dropLast.map cvH) ∧ bT ex hs n = true ∧ lkS up (cs.map cvC) (hs.map cvH) 0 (nthL (hs.dropLast.map cvH) n ex) = lst up (cs.map cvC) (hs.map cvH) 0 ex := by
    intro up hne
    obtain ⟨t, h1, h2, h3⟩ := lst_att up _ _ _ _ hne
    have ht : isT ex (hs.map cvH) t = true := by unfold isT; rw [h1, h2]; simp
    obtain ⟨n, n1, n2⟩ := all t ht
    exact ⟨n, n1, by unfold bT; rw [n2]; exact ht, by rw [n2]; exact h3⟩
  have le : ∀ up n, bT ex hs n = true → lst up (cs.map cvC) (hs.map cvH) 0 ex ≠ nev ∧ lst up (cs.map cvC) (hs.map cvH) 0 ex ≤ lkS up (cs.map cvC) (hs.map cvH) 0 (nthL (hs.dropLast.map cvH) n ex) := by
    intro up n ht
    unfold bT isT at ht
    rw [Bool.and_eq_true, decide_eq_true_eq] at ht
    exact lst_le up _ hok _ _ _ _ (by simp; omega) z6 ht.1 ht.2
  unfold shortR
  cases hb : (bAcc (bT ex hs) (bS ex hs cs) (mny 1 (hs.dropLast.map cvH))).1 with
  | false =>
    obtain ⟨h1, h2⟩ := bAcc_no _ _ _ hb
    rw [h1, if_pos]
    refine Classical.byContradiction fun hne => ?_
    obtain ⟨n, n1, n2, _⟩ := tr false hne
    rw [h2 n n1] at n2; cases n2
  | true =>
    obtain ⟨⟨k1, a1, a2, a3⟩, ⟨k2, b1, b2, b3⟩, c⟩ := bAcc_yes _ _ _ hb
    have hne := le false k1 a2
    have hne2 := le true k2 b2
    obtain ⟨n1, d1, d2, d3⟩ := tr false hne.1
    obtain ⟨n2, e1, e2, e3⟩ := tr true hne2.1
    rw [if_neg hne.1]
    have c1 := c n1 d1 d2
    have c2 := c n2 e1 e2
    rw [lkS_neg] at e3 hne2
    simp only [bS] at a3 b3 c1 c2
    have f1 := hne.2
    have f2 := hne2.2
    have g1 : (bAcc (bT ex hs) (bS ex hs cs) (mny 1 (hs.dropLast.map cvH))).2.1 = lst false (cs.map cvC) (hs.map cvH) 0 ex := by omega
    have g2 : (bAcc (bT ex hs) (bS ex hs cs) (mny 1 (hs.dropLast.map cvH))).2.2 = -lst true (cs.map cvC) (hs.map cvH) 0 ex := by omega
    rw [g1, g2]
end
end Go.Proofs.Ytgjifkegfbpjkaa.Q
end
