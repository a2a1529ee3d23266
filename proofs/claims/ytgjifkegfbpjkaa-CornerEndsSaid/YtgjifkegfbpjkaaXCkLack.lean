/- Plain laws: the bounds of the shortage are the same, whether searched or gone through one by one. -/
import Derived.Test.YtgjifkegfbpjkaaXCkPlain
import Derived.Test.YtgjifkegfbpjkaaXCkShort
import Derived.Test.YtgjifkegfbpjkaaXQf33
section
namespace Go.Proofs.Ytgjifkegfbpjkaa.Q
set_option linter.unusedVariables false
set_option linter.unusedSimpArgs false
open Go.RowKit Go.Proofs.YtgjifkegfbpjkaaW.PrintWords Go.Proofs.YtgjifkegfbpjkaaW.PrintLast Go.Proofs.YtgjifkegfbpjkaaW.PrintMore
def lkS (up : Bool) (cs : List S75) : List S73 → Int → List Int → Int
  | h :: hs, i, x :: t => lk up h.f1 (ow cs i + x) + lkS up cs hs (i + 1) t
  | _, _, _ => 0
theorem lmin_le (F V : Nat → Int) : ∀ (n k : Nat), k < n → F k ≠ nev → (∀ j, j < n → F j ≠ nev → F j + V j < nev) → lmin F V n ≤ F k + V k
  | 0, k, h, _, _ => by omega
  | n + 1, k, h, hk, hb => by
    unfold lmin
    by_cases e : k = n
    · subst e
      rw [if_neg hk]; unfold mi; split <;> omega
    · have ih := lmin_le F V n k (by omega) hk (fun j hj => hb j (by omega))
      split
      · exact ih
      · unfold mi; split <;> omega
theorem lmin_att (F V : Nat → Int) : ∀ n, lmin F V n ≠ nev → ∃ k, k < n ∧ F k ≠ nev ∧ lmin F V n = F k + V k
  | 0, h => absurd rfl h
  | n + 1, h => by
    unfold lmin at h ⊢
    by_cases e : F n = nev
    · rw [if_pos e] at h ⊢
      obtain ⟨k, h1, h2, h3⟩ := lmin_att F V n h
      exact ⟨k, by omega, h2, h3⟩
    · rw [if_neg e] at h ⊢
      unfold mi at h ⊢
      by_cases c : F n + V n < lmin F V n
      · rw [if_pos c]; exact ⟨n, by omega, e, rfl⟩
      · rw [if_neg c] at h ⊢
        obtain ⟨k, h1, h2, h3⟩ := lmin_att F V n h
        exact ⟨k, by omega, h2, h3⟩
theorem ow_bd (cs : List S75) (hc : okCs cs) (j : Int) : -1600 ≤ ow cs j ∧ ow cs j ≤ 1600 := by
  have h2 : ∀ (l : List S75), (∀ c ∈ l, 1 ≤ c.f2 ∧ c.f2 ≤ 200) → -(200 * (l.length : Int)) ≤ ow l j ∧ ow l j ≤ 200 * l.length := by
    intro l
    induction l with
    | nil => intro _; simp [ow]
    | cons c l ih =>
      intro hl
      have := ih (fun c hc => hl c (List.mem_cons_of_mem _ hc))
      have := hl c List.mem_cons_self
      simp only [ow, List.length_cons]
      split <;> split <;> omega
  have h3 := h2 cs (fun c h => ⟨(hc.2 c h).2.2.2.2.2.1, (hc.2 c h).2.2.2.2.2.2⟩)
  have := hc.1
  omega
theorem held_sum0 : ∀ (hs : List S73) (t : List Int), inHeld hs t = true → (∀ h ∈ hs, vH h = true) → 0 ≤ t.sum := fun hs t e hv => (sum_bd hs t e hv).1
theorem lst_up (up : Bool) (cs : List S75) (hc : okCs cs) : ∀ (hs : List S73) (i left : Int), (∀ h ∈ hs, vH h = true) → lst up cs hs i left ≠ nev → lst up cs hs i left ≤ 1800 * hs.length
  | [], i, left, hv, h => by
    unfold lst at h ⊢
    split at h
    · rw [if_pos (by assumption)]; simp
    · exact absurd rfl h
  | h :: hs, i, left, hv, hne => by
    unfold lst at hne ⊢
    obtain ⟨k, h1, h2, h3⟩ := lmin_att _ _ _ hne
    rw [h3]
    have ih := lst_up up cs hc hs (i + 1) (left - (h.f0.f0 + k)) (fun x hx => hv x (List.mem_cons_of_mem _ hx)) h2
    have hh := (vH_iff h).1 (hv h List.mem_cons_self)
    have ho := ow_bd cs hc i
    have hk : (k : Int) ≤ h.f0.f1 - h.f0.f0 := by
      have : k < (mi h.f0.f1 left - h.f0.f0 + 1).toNat := h1
      unfold mi at this; split at this <;> omega
    have := (lk_bound up h.f1 (ow cs i + (h.f0.f0 + k)) 1800 (by omega) (by omega)).2
    simp only [List.length_cons]
    omega
theorem lst_le (up : Bool) (cs : List S75) (hc : okCs cs) : ∀ (hs : List S73) (i left : Int) (t : List Int), hs.length ≤ 100 → (∀ h ∈ hs, vH h = true) → inHeld hs t = true → t.sum = left →
    lst up cs hs i left ≠ nev ∧ lst up cs hs i left ≤ lkS up cs hs i t
  | [], i, left, t, hl, hv, ht, hs => by
    match t, ht with
    | [], _ =>
      unfold lst lkS
      rw [if_pos (by simpa using hs.symm)]
      exact ⟨by unfold nev; omega, Int.le_refl _⟩
    | _ :: _, ht => simp [inHeld] at ht
  | h :: hs, i, left, t, hl, hv, ht, hsum => by
    match t, ht with
    | [], ht => simp [inHeld] at ht
    | x :: t, ht =>
      simp only [inHeld, Bool.and_eq_true, decide_eq_true_eq] at ht
      simp only [List.sum_cons] at hsum
      simp only [List.length_cons] at hl
      have hv' : ∀ x ∈ hs, vH x = true := fun x hx => hv x (List.mem_cons_of_mem _ hx)
      have h0 := held_sum0 hs t ht.2 hv'
      have hh := (vH_iff h).1 (hv h List.mem_cons_self)
      have ho := ow_bd cs hc i
      have ek : h.f0.f0 + ((x - h.f0.f0).toNat : Int) = x := by omega
      have ih := lst_le up cs hc hs (i + 1) (left - x) t (by omega) hv' ht.2 (by omega)
      have hb : ∀ j, j < (mi h.f0.f1 left - h.f0.f0 + 1).toNat → lst up cs hs (i + 1) (left - (h.f0.f0 + j)) ≠ nev → lst up cs hs (i + 1) (left - (h.f0.f0 + j)) + lk up h.f1 (ow cs i + (h.f0.f0 + j)) < nev := by
        intro j hj hne
        have h1 := lst_up up cs hc hs _ _ hv' hne
        have hk : (j : Int) ≤ h.f0.f1 - h.f0.f0 := by
          unfold mi at hj; split at hj <;> omega
        have := (lk_bound up h.f1 (ow cs i + (h.f0.f0 + j)) 1800 (by omega) (by omega)).2
        unfold nev; omega
      have hk : (x - h.f0.f0).toNat < (mi h.f0.f1 left - h.f0.f0 + 1).toNat := by unfold mi; split <;> omega
      have key := lmin_le (fun k => lst up cs hs (i + 1) (left - (h.f0.f0 + k))) (fun k => lk up h.f1 (ow cs i + (h.f0.f0 + k))) _ _ hk (by show lst up cs hs (i + 1) (left - (h.f0.f0 + ((x - h.f0.f0).toNat : Int))) ≠ nev; rw [ek]; exact ih.1) hb
      have hlt := hb _ hk (by rw [ek]; exact ih.1)
      replace key : lmin (fun k => lst up cs hs (i + 1) (left - (h.f0.f0 + k))) (fun k => lk up h.f1 (ow cs i + (h.f0.f0 + k))) (mi h.f0.f1 left - h.f0.f0 + 1).toNat ≤ lst up cs hs (i + 1) (left - (h.f0.f0 + ((x - h.f0.f0).toNat : Int))) + lk up h.f1 (ow cs i + (h.f0.f0 + ((x - h.f0.f0).toNat : Int))) := key
      rw [ek] at key hlt
      unfold lst lkS
      refine ⟨by omega, by omega⟩
theorem lst_att (up : Bool) (cs : List S75) : ∀ (hs : List S73) (i left : Int), lst up cs hs i left ≠ nev → ∃ t, inHeld hs t = true ∧ t.sum = left ∧ lkS up cs hs i t = lst up cs hs i left
  | [], i, left, h => by
    unfold lst at h ⊢
    split at h
    · rename_i e; exact ⟨[], rfl, by simp [e], by rw [if_pos e]; rfl⟩
    · exact absurd rfl h
  | h :: hs, i, left, hne => by
    unfold lst at hne ⊢
    obtain ⟨k, h1, h2, h3⟩ := lmin_att _ _ _ hne
    obtain ⟨t, t1, t2, t3⟩ := lst_att up cs hs (i + 1) (left - (h.f0.f0 + k)) h2
    have hk : (k : Int) ≤ h.f0.f1 - h.f0.f0 := by
      have : k < (mi h.f0.f1 left - h.f0.f0 + 1).toNat := h1
      unfold mi at this; split at this <;> omega
    refine ⟨(h.f0.f0 + k) :: t, ?_, ?_, ?_⟩
    · simp only [inHeld, Bool.and_eq_true, decide_eq_true_eq]; exact ⟨⟨by omega, by omega⟩, t1⟩
    · simp only [List.sum_cons]; omega
    · rw [h3]; unfold lkS; rw [t3]; omega
theorem wrap_in64' (a : Int) (h0 : -1000000000 ≤ a) (h1 : a ≤ 1000000000) : wrap64 a = a := by unfold wrap64; omega
theorem lk_neg (s : Bool) (p : Int) : lk true s p = -lk false s p := by unfold lk; simp; omega
theorem lkS_neg (cs : List S75) : ∀ (hs : List S73) (i : Int) (t : List Int), lkS true cs hs i t = -lkS false cs hs i t
  | [], _, _ => by simp [lkS]
  | h :: hs, i, [] => by simp [lkS]
  | h :: hs, i, x :: t => by unfold lkS; rw [lkS_neg cs hs (i + 1) t, lk_neg]; omega
theorem sum_l0 (l : List Int) (hl : l.length ≤ 1000) (hb : ∀ x ∈ l, -1000000 ≤ x ∧ x ≤ 1000000) : ∀ (d k i : Nat) (s : Int), l.length - i = d → d < k → i ≤ l.length → -1000000 * (i : Int) ≤ s → s ≤ 1000000 * i →
    contangoref11_Sum.l0 k l s (i : Int) = some (s + (l.drop i).sum)
  | d, 0, i, s, hd, hk, hi, h1, h2 => by omega
  | d, k + 1, i, s, hd, hk, hi, h1, h2 => by
    rw [contangoref11_Sum.l0]
    by_cases h : i < l.length
    · have hx := hb (rd l (i : Int)) (by have := drop_rd l i h; exact List.mem_of_mem_drop (i := i) (by rw [this]; exact List.mem_cons_self))
      rw [if_pos (by omega), if_pos (by omega), wsucc i (by omega), show wrap64 (s + rd l (i : Int)) = s + rd l (i : Int) from by unfold wrap64; omega,
        sum_l0 l hl hb (d - 1) k (i + 1) _ (by omega) (by omega) (by omega) (by omega) (by omega), drop_rd l i h, List.sum_cons]
      congr 1; omega
    · rw [if_neg (by omega), List.drop_of_length_le (by omega)]; simp
theorem sum_f (k : Nat) (l : List Int) (hl : l.length ≤ 1000) (hb : ∀ x ∈ l, -1000000 ≤ x ∧ x ≤ 1000000) (hk : l.length < k) : contangoref11_Sum.f k l = some l.sum := by
  unfold contangoref11_Sum.f
  rw [show contangoref11_Sum.l0 k l 0 0 = contangoref11_Sum.l0 k l 0 ((0 : Nat) : Int) from rfl, sum_l0 l hl hb l.length k 0 0 (by omega) (by omega) (by omega) (by omega) (by omega)]; simp
theorem lkS_sum (cs : List S75) (T : List Int) : ∀ (hs : List S73) (i : Nat) (g : Nat → S73), (∀ j, j < hs.length → hs[j]? = some (g (i + j))) → i + hs.length = T.length →
    lkS false cs hs (i : Int) (T.drop i) = ((List.range' i hs.length).map fun j => nd (po cs T j)).sum - ((List.range' i hs.length).map fun j => sp (g j).f1 (po cs T j)).sum
  | [], i, g, _, _ => by simp [lkS]
  | h :: hs, i, g, hg, hl => by
    simp only [List.length_cons] at hl hg
    have ih := lkS_sum cs T hs (i + 1) g (fun j hj => by have := hg (j + 1) (by omega); rw [show i + 1 + j = i + (j + 1) from by omega]; simpa using this) (by omega)
    have h0 := hg 0 (by omega)
    simp only [List.getElem?_cons_zero, Option.some.injEq, Nat.add_zero] at h0
    rw [drop_rd T i (by omega), List.length_cons, List.range'_succ]
    simp only [List.map_cons, List.sum_cons]
    unfold lkS
    rw [show ((i : Int) + 1) = ((i + 1 : Nat) : Int) from by omega, ih, ← h0]
    have e : po cs T i = ow cs (i : Int) + rd T (i : Int) := by
      unfold po rd; rw [show ((i : Int).toNat) = i from by omega]
    rw [e]
    unfold lk
    simp
    omega
theorem short_f (k : Nat) (ex : Int) (hs : List S88) (cs : List S101) (t : List Int) (hck : ck ex (hs.map cvH) (cs.map cvC) = 0) (ht : isT ex (hs.map cvH) t = true) (hk : 60 < k) :
    contangoref11_Short.f k ex hs cs t = some (lkS false (cs.map cvC) (hs.map cvH) 0 t) := by
  obtain ⟨z1, z2, z3, z4, z5, z6, z7⟩ := ck_zero hck
  have hok := ck_okCs hck
  simp only [List.length_map] at z1 z2 z3
  have ht' := ht
  unfold isT at ht'
  rw [Bool.and_eq_true] at ht'
  have hl : t.length = hs.length := by simpa using inHeld_length _ _ ht'.1
  have hb : ∀ x ∈ t, 0 ≤ x ∧ x ≤ 200 := inHeld_okT _ _ ht'.1 z6
  have hn : ∀ i, 0 ≤ nd (po (cs.map cvC) t i) ∧ nd (po (cs.map cvC) t i) ≤ 100000 := fun i => by
    have := po_bd (cs.map cvC) t hok hb i
    unfold nd; split <;> omega
  have hp : ∀ s i, 0 ≤ sp s (po (cs.map cvC) t i) ∧ sp s (po (cs.map cvC) t i) ≤ 100000 := fun s i => by
    have := po_bd (cs.map cvC) t hok hb i
    unfold sp; split
    · split <;> omega
    · omega
  have sumb : ∀ (l : List Int), (∀ x ∈ l, 0 ≤ x ∧ x ≤ 100000) → 0 ≤ l.sum ∧ l.sum ≤ 100000 * l.length := by
    intro l
    induction l with
    | nil => intro _; simp
    | cons x l ih =>
      intro h
      have := ih (fun y hy => h y (List.mem_cons_of_mem _ hy))
      have := h x List.mem_cons_self
      simp only [List.sum_cons, List.length_cons]; omega
  have b1 : ∀ x ∈ ndL (cs.map cvC) t hs.length, 0 ≤ x ∧ x ≤ 100000 := by
    intro x hx; unfold ndL at hx; obtain ⟨i, _, rfl⟩ := List.mem_map.1 hx; exact hn i
  have b2 : ∀ x ∈ spL (hs.map cvH) (cs.map cvC) t hs.length, 0 ≤ x ∧ x ≤ 100000 := by
    intro x hx; unfold spL at hx; obtain ⟨i, _, rfl⟩ := List.mem_map.1 hx; exact hp _ i
  have l1 : (ndL (cs.map cvC) t hs.length).length = hs.length := by simp [ndL]
  have l2 : (spL (hs.map cvH) (cs.map cvC) t hs.length).length = hs.length := by simp [spL]
  have s1 := sumb _ b1
  have s2 := sumb _ b2
  unfold contangoref11_Short.f
  rw [rneeds_f k ex hs cs t hck ht hk]
  simp only [Option.bind_some]
  rw [sum_f k _ (by omega) (fun x hx => by have := b1 x hx; omega) (by omega), sum_f k _ (by omega) (fun x hx => by have := b2 x hx; omega) (by omega)]
  simp only [Option.bind_some]
  rw [l1] at s1
  rw [l2] at s2
  have key := lkS_sum (cs.map cvC) t (hs.map cvH) 0 (fun j => (hs.map cvH).getD j z73) (fun j hj => by rw [Nat.zero_add]; simp at hj; simp [hj]) (by simpa using hl.symm)
  rw [List.drop_zero, List.length_map, ← List.range_eq_range'] at key
  unfold ndL at s1 ⊢
  unfold spL at s2 ⊢
  rw [show wrap64 _ = _ from wrap_in64' _ (by omega) (by omega)]
  rw [show lkS false (cs.map cvC) (hs.map cvH) 0 t = lkS false (cs.map cvC) (hs.map cvH) ((0 : Nat) : Int) t from rfl, key]
end Go.Proofs.Ytgjifkegfbpjkaa.Q
end
