/- Plain laws: sets of houses in the order of size, then of their numbers; the first with a property is the same, however they are gone through. -/
import Derived.Test.YtgjifkegfbpjkaaXCkPlain
section
namespace Go.Proofs.Ytgjifkegfbpjkaa.Q
set_option linter.unusedVariables false
set_option linter.unusedSimpArgs false
open Go.RowKit Go.Proofs.YtgjifkegfbpjkaaW.PrintWords Go.Proofs.YtgjifkegfbpjkaaW.PrintLast Go.Proofs.YtgjifkegfbpjkaaW.PrintMore
def lexB : List Int → List Int → Bool
  | [], b => decide (0 < b.length)
  | _ :: _, [] => false
  | a :: u, b :: v => if a = b then lexB u v else decide (a < b)
def shB (a b : List Int) : Bool := decide (a.length < b.length) || (decide (a.length = b.length) && lexB a b)
theorem lexB_tri : ∀ (a b : List Int), lexB a b = false → lexB b a = false → a = b
  | [], [], _, _ => rfl
  | [], b :: v, h, _ => by simp [lexB] at h
  | a :: u, [], _, h => by simp [lexB] at h
  | a :: u, b :: v, h1, h2 => by
    unfold lexB at h1 h2
    by_cases e : a = b
    · rw [if_pos e] at h1; rw [if_pos e.symm] at h2
      rw [e, lexB_tri u v h1 h2]
    · rw [if_neg e] at h1; rw [if_neg (fun x => e x.symm)] at h2
      simp at h1 h2; omega
theorem shB_tri (a b : List Int) (h1 : shB a b = false) (h2 : shB b a = false) : a = b := by
  unfold shB at h1 h2
  simp only [Bool.or_eq_false_iff, decide_eq_false_iff_not] at h1 h2
  have e : a.length = b.length := by omega
  rw [decide_eq_true e] at h1; rw [decide_eq_true e.symm] at h2
  exact lexB_tri a b (by simpa using h1.2) (by simpa using h2.2)
theorem lexB_irrefl : ∀ a : List Int, lexB a a = false
  | [] => by simp [lexB]
  | a :: u => by unfold lexB; rw [if_pos rfl]; exact lexB_irrefl u
theorem shB_irrefl (a : List Int) : shB a a = false := by simp [shB, lexB_irrefl]
theorem lexB_trans : ∀ (a b c : List Int), lexB a b = true → lexB b c = true → lexB a c = true
  | [], [], c, h, _ => by simp [lexB] at h
  | [], b :: v, [], _, h => by simp [lexB] at h
  | [], b :: v, c :: cs, _, _ => by simp [lexB]
  | a :: u, [], c, h, _ => by simp [lexB] at h
  | a :: u, b :: v, [], _, h => by simp [lexB] at h
  | a :: u, b :: v, c :: cs, h1, h2 => by
    unfold lexB at h1 h2 ⊢
    by_cases e1 : a = b
    · rw [if_pos e1] at h1
      by_cases e2 : b = c
      · rw [if_pos e2] at h2; rw [if_pos (e1.trans e2)]; exact lexB_trans u v cs h1 h2
      · rw [if_neg e2] at h2; rw [if_neg (by rw [e1]; exact e2), e1]; exact h2
    · rw [if_neg e1] at h1
      simp at h1
      by_cases e2 : b = c
      · rw [if_neg (by rw [← e2]; exact e1), ← e2]; simpa using h1
      · rw [if_neg e2] at h2
        simp at h2
        rw [if_neg (by omega)]; simp; omega
theorem shB_trans (a b c : List Int) (h1 : shB a b = true) (h2 : shB b c = true) : shB a c = true := by
  unfold shB at h1 h2 ⊢
  simp only [Bool.or_eq_true, Bool.and_eq_true, decide_eq_true_eq] at h1 h2 ⊢
  rcases h1 with h1 | ⟨e1, h1⟩ <;> rcases h2 with h2 | ⟨e2, h2⟩
  · left; omega
  · left; omega
  · left; omega
  · right; exact ⟨by omega, lexB_trans a b c h1 h2⟩
theorem shB_keep (s b r : List Int) (h1 : shB s b = false) (h2 : shB r b = true) : shB s r = false := by
  cases h : shB s r with
  | false => rfl
  | true => rw [shB_trans s r b h h2] at h1; cases h1
def Inc (n : Nat) (ok : Nat → Bool) : Nat → List Int → Prop
  | _, [] => True
  | from_, x :: l => ∃ i : Nat, x = i ∧ from_ ≤ i ∧ i < n ∧ ok i = true ∧ Inc n ok (i + 1) l
theorem Inc.le {n : Nat} {ok : Nat → Bool} : ∀ {l : List Int} {a b : Nat}, Inc n ok a l → b ≤ a → Inc n ok b l
  | [], _, _, _, _ => trivial
  | _ :: _, _, _, ⟨i, h1, h2, h3, h4, h5⟩, h => ⟨i, h1, by omega, h3, h4, h5⟩
theorem Inc.len {n : Nat} {ok : Nat → Bool} : ∀ {l : List Int} {a : Nat}, Inc n ok a l → a ≤ n → l.length + a ≤ n
  | [], _, _, h => by simpa using h
  | _ :: l, a, ⟨i, h1, h2, h3, h4, h5⟩, h => by have := Inc.len h5 (by omega); simp only [List.length_cons]; omega
theorem Inc.next {n : Nat} {ok : Nat → Bool} {x : Int} {l : List Int} {a : Nat} (h : Inc n ok a (x :: l)) (hx : x ≠ (a : Int)) : Inc n ok (a + 1) (x :: l) := by
  obtain ⟨i, h1, h2, h3, h4, h5⟩ := h
  exact ⟨i, h1, by omega, h3, h4, h5⟩
def fstP (n : Nat) (ok : Nat → Bool) (P : List Int → Bool) : Nat → List Int → Nat → Option (List Int)
  | 0, l, _ => if P l = true then some l else none
  | m + 1, l, from_ => (List.range' from_ (n - from_)).findSome? fun i => if ok i = true then fstP n ok P m (l ++ [(i : Int)]) (i + 1) else none
def FS (n : Nat) (ok : Nat → Bool) (P : List Int → Bool) (m : Nat) (l : List Int) (from_ : Nat) : Option (List Int) → Prop
  | some r => ∃ s, r = l ++ s ∧ s.length = m ∧ Inc n ok from_ s ∧ P r = true ∧ ∀ s', s'.length = m → Inc n ok from_ s' → P (l ++ s') = true → lexB s' s = false
  | none => ∀ s', s'.length = m → Inc n ok from_ s' → P (l ++ s') = false
theorem fs_range (n : Nat) (ok : Nat → Bool) (P : List Int → Bool) (m : Nat) (l : List Int) (g : Nat → Option (List Int)) (hg : ∀ i, ok i = true → FS n ok P m (l ++ [(i : Int)]) (i + 1) (g i)) :
    ∀ (d from_ : Nat), n - from_ = d → FS n ok P (m + 1) l from_ ((List.range' from_ d).findSome? fun i => if ok i = true then g i else none)
  | 0, from_, hd => by
    simp only [List.range'_zero, List.findSome?_nil]
    intro s' hs hi
    match s', hs, hi with
    | x :: t, _, ⟨i, h1, h2, h3, _⟩ => omega
  | d + 1, from_, hd => by
    have ih := fs_range n ok P m l g hg d (from_ + 1) (by omega)
    rw [List.range'_succ, List.findSome?_cons]
    by_cases ho : ok from_ = true
    · rw [if_pos ho]
      have h0 := hg from_ ho
      cases e : g from_ with
      | some r =>
        rw [e] at h0
        obtain ⟨s, rfl, hs, hi, hp, hm⟩ := h0
        refine ⟨(from_ : Int) :: s, by simp, by simp [hs], ⟨from_, rfl, Nat.le_refl _, by omega, ho, hi⟩, hp, ?_⟩
        intro s' hs' hi' hp'
        match s', hs', hi' with
        | x :: t, hs', hi' =>
          by_cases hx : x = (from_ : Int)
          · subst hx
            obtain ⟨i, h1, h2, h3, h4, h5⟩ := hi'
            obtain rfl : i = from_ := by omega
            unfold lexB; rw [if_pos rfl]
            exact hm t (by simpa using hs') h5 (by simpa using hp')
          · obtain ⟨i, h1, h2, h3, h4, h5⟩ := hi'
            unfold lexB; rw [if_neg hx]
            exact decide_eq_false (by omega)
      | none =>
        rw [e] at h0
        simp only []
        cases e2 : (List.range' (from_ + 1) d).findSome? fun i => if ok i = true then g i else none with
        | some r =>
          rw [e2] at ih
          obtain ⟨s, rfl, hs, hi, hp, hm⟩ := ih
          refine ⟨s, rfl, hs, hi.le (by omega), hp, ?_⟩
          intro s' hs' hi' hp'
          match s', hs', hi' with
          | x :: t, hs', hi' =>
            by_cases hx : x = (from_ : Int)
            · subst hx
              obtain ⟨i, h1, h2, h3, h4, h5⟩ := hi'
              obtain rfl : i = from_ := by omega
              have := h0 t (by simpa using hs') h5
              rw [List.append_assoc] at this
              rw [show [(i : Int)] ++ t = (i : Int) :: t from rfl, hp'] at this; cases this
            · exact hm _ hs' (hi'.next hx) hp'
        | none =>
          rw [e2] at ih
          intro s' hs' hi'
          match s', hs', hi' with
          | x :: t, hs', hi' =>
            by_cases hx : x = (from_ : Int)
            · subst hx
              obtain ⟨i, h1, h2, h3, h4, h5⟩ := hi'
              obtain rfl : i = from_ := by omega
              have := h0 t (by simpa using hs') h5
              rw [List.append_assoc] at this
              exact this
            · exact ih _ hs' (hi'.next hx)
    · rw [if_neg ho]
      simp only []
      have skip : ∀ s' : List Int, s'.length = m + 1 → Inc n ok from_ s' → Inc n ok (from_ + 1) s' := by
        intro s' hs' hi'
        match s', hs', hi' with
        | x :: t, hs', hi' =>
          refine hi'.next fun hx => ?_
          obtain ⟨i, h1, h2, h3, h4, h5⟩ := hi'
          obtain rfl : i = from_ := by omega
          exact ho h4
      cases e2 : (List.range' (from_ + 1) d).findSome? fun i => if ok i = true then g i else none with
      | some r =>
        rw [e2] at ih
        obtain ⟨s, rfl, hs, hi, hp, hm⟩ := ih
        exact ⟨s, rfl, hs, hi.le (by omega), hp, fun s' hs' hi' hp' => hm s' hs' (skip s' hs' hi') hp'⟩
      | none =>
        rw [e2] at ih
        exact fun s' hs' hi' => ih s' hs' (skip s' hs' hi')
theorem fs_fst (n : Nat) (ok : Nat → Bool) (P : List Int → Bool) : ∀ (m : Nat) (l : List Int) (from_ : Nat), FS n ok P m l from_ (fstP n ok P m l from_)
  | 0, l, from_ => by
    unfold fstP
    cases hp : P l with
    | true =>
      rw [if_pos rfl]
      refine ⟨[], by simp, rfl, trivial, hp, ?_⟩
      intro s' hs' _ _
      obtain rfl := List.length_eq_zero_iff.1 hs'
      simp [lexB]
    | false =>
      rw [if_neg (by simp)]
      intro s' hs' _
      obtain rfl := List.length_eq_zero_iff.1 hs'
      simpa using hp
  | m + 1, l, from_ => by
    unfold fstP
    exact fs_range n ok P m l _ (fun i _ => fs_fst n ok P m _ _) _ from_ rfl
def Least (n : Nat) (ok : Nat → Bool) (P : List Int → Bool) : Option (List Int) → Prop
  | some r => Inc n ok 0 r ∧ P r = true ∧ ∀ s, Inc n ok 0 s → P s = true → shB s r = false
  | none => ∀ s, Inc n ok 0 s → P s = false
theorem least_one {n : Nat} {ok : Nat → Bool} {P : List Int → Bool} : ∀ {a b : Option (List Int)}, Least n ok P a → Least n ok P b → a = b
  | some a, some b, ⟨h1, h2, h3⟩, ⟨k1, k2, k3⟩ => by rw [shB_tri a b (k3 a h1 h2) (h3 b k1 k2)]
  | some a, none, ⟨h1, h2, _⟩, k => by rw [k a h1] at h2; cases h2
  | none, some b, h, ⟨k1, k2, _⟩ => by rw [h b k1] at k2; cases k2
  | none, none, _, _ => rfl
theorem least_from (n : Nat) (ok : Nat → Bool) (P : List Int → Bool) : ∀ (d k : Nat), n + 1 - k = d → (∀ s, Inc n ok 0 s → s.length < k → P s = false) →
    Least n ok P ((List.range' k d).findSome? fun m => fstP n ok P m [] 0)
  | 0, k, hd, hk => by
    simp only [List.range'_zero, List.findSome?_nil]
    intro s hs
    have := hs.len (by omega)
    exact hk s hs (by omega)
  | d + 1, k, hd, hk => by
    rw [List.range'_succ, List.findSome?_cons]
    have h0 := fs_fst n ok P k [] 0
    cases e : fstP n ok P k [] 0 with
    | some r =>
      rw [e] at h0
      obtain ⟨s, hr, hs, hi, hp, hm⟩ := h0
      obtain rfl : s = r := by simpa using hr.symm
      refine ⟨hi, hp, ?_⟩
      intro s' hi' hp'
      have h1 : ¬ s'.length < k := fun h => by rw [hk s' hi' h] at hp'; cases hp'
      unfold shB
      simp only [List.nil_append, Bool.or_eq_false_iff, decide_eq_false_iff_not, Bool.and_eq_false_iff]
      refine ⟨by omega, ?_⟩
      by_cases h2 : s'.length = s.length
      · right; exact hm s' (by omega) hi' (by simpa using hp')
      · left; exact h2
    | none =>
      rw [e] at h0
      refine least_from n ok P d (k + 1) (by omega) ?_
      intro s hs hl
      by_cases h2 : s.length = k
      · have := h0 s h2 hs
        simpa using this
      · exact hk s hs (by omega)
theorem least_all (n : Nat) (ok : Nat → Bool) (P : List Int → Bool) : Least n ok P ((List.range' 0 (n + 1 - 0)).findSome? fun m => fstP n ok P m [] 0) :=
  least_from n ok P (n + 1) 0 (by omega) (fun s _ h => by omega)
def setB (n b : Nat) : List Int := ((List.range n).filter fun i => b.testBit i).map fun (i : Nat) => (i : Int)
theorem inc_filter (n : Nat) (ok : Nat → Bool) (p : Nat → Bool) (hok : ∀ i, i < n → p i = true → ok i = true) : ∀ (d from_ : Nat), from_ + d = n → Inc n ok from_ (((List.range' from_ d).filter p).map fun (i : Nat) => (i : Int))
  | 0, _, _ => trivial
  | d + 1, from_, h => by
    have ih := inc_filter n ok p hok d (from_ + 1) (by omega)
    rw [List.range'_succ, List.filter_cons]
    cases hp : p from_ with
    | true => exact ⟨from_, rfl, Nat.le_refl _, by omega, hok _ (by omega) hp, ih⟩
    | false => exact ih.le (by omega)
theorem filter_inc (n : Nat) (ok : Nat → Bool) : ∀ (d from_ : Nat) (l : List Int), from_ + d = n → Inc n ok from_ l → ∃ c, c < 2 ^ d ∧ ((List.range' from_ d).filter fun i => c.testBit (i - from_)).map (fun (i : Nat) => (i : Int)) = l
  | 0, from_, l, h, hi => by
    match l, hi with
    | [], _ => exact ⟨0, by decide, rfl⟩
    | x :: t, ⟨i, h1, h2, h3, _⟩ => omega
  | d + 1, from_, l, h, hi => by
    have shift : ∀ (c : Nat) (e : Nat), e ≤ 1 → (List.range' (from_ + 1) d).filter (fun i => (2 * c + e).testBit (i - from_)) = (List.range' (from_ + 1) d).filter fun i => c.testBit (i - (from_ + 1)) := by
      intro c e he
      refine List.filter_congr fun i hm => ?_
      have := List.mem_range'_1.1 hm
      rw [show i - from_ = (i - (from_ + 1)) + 1 from by omega, Nat.testBit_succ]
      congr 1
      omega
    rw [List.range'_succ]
    match l, hi with
    | [], _ =>
      obtain ⟨c, h1, h2⟩ := filter_inc n ok d (from_ + 1) [] (by omega) trivial
      refine ⟨2 * c + 0, by rw [Nat.pow_succ]; omega, ?_⟩
      rw [List.filter_cons, if_neg (by simp [Nat.sub_self, Nat.testBit_zero]), shift c 0 (by omega)]
      exact h2
    | x :: t, hi =>
      by_cases hx : x = (from_ : Int)
      · obtain ⟨i, g1, g2, g3, g4, g5⟩ := hi
        obtain rfl : i = from_ := by omega
        obtain ⟨c, h1, h2⟩ := filter_inc n ok d (i + 1) t (by omega) g5
        refine ⟨2 * c + 1, by rw [Nat.pow_succ]; omega, ?_⟩
        rw [List.filter_cons, if_pos (by simp [Nat.sub_self, Nat.testBit_zero]), shift c 1 (by omega), List.map_cons, h2, hx]
      · obtain ⟨c, h1, h2⟩ := filter_inc n ok d (from_ + 1) (x :: t) (by omega) (hi.next hx)
        refine ⟨2 * c + 0, by rw [Nat.pow_succ]; omega, ?_⟩
        rw [List.filter_cons, if_neg (by simp [Nat.sub_self, Nat.testBit_zero]), shift c 0 (by omega)]
        exact h2
theorem setB_inc (n b : Nat) (ok : Nat → Bool) (hok : ∀ i, i < n → b.testBit i = true → ok i = true) : Inc n ok 0 (setB n b) := by
  unfold setB; rw [List.range_eq_range']
  exact inc_filter n ok _ hok n 0 (by omega)
theorem inc_setB (n : Nat) (ok : Nat → Bool) (l : List Int) (h : Inc n ok 0 l) : ∃ b, b < 2 ^ n ∧ setB n b = l := by
  obtain ⟨c, h1, h2⟩ := filter_inc n ok n 0 l (by omega) h
  exact ⟨c, h1, by unfold setB; rw [List.range_eq_range']; exact h2⟩
theorem inc_mem {n : Nat} {ok : Nat → Bool} : ∀ {l : List Int} {a : Nat}, Inc n ok a l → ∀ x ∈ l, ∃ i : Nat, x = i ∧ i < n ∧ ok i = true
  | [], _, _, x, hx => by cases hx
  | y :: l, a, ⟨i, h1, h2, h3, h4, h5⟩, x, hx => by
    rcases List.mem_cons.1 hx with rfl | hx
    · exact ⟨i, h1, h3, h4⟩
    · exact inc_mem h5 x hx
theorem setB_mem (n b i : Nat) : ((i : Int) ∈ setB n b) ↔ i < n ∧ b.testBit i = true := by
  unfold setB
  simp only [List.mem_map, List.mem_filter, List.mem_range]
  constructor
  · rintro ⟨j, h, e⟩
    obtain rfl : j = i := by omega
    exact h
  · exact fun h => ⟨i, h, rfl⟩
def bestB (S : Nat → List Int) (Q : Nat → Bool) : Nat → Option (List Int) → Nat → Option (List Int)
  | 0, best, _ => best
  | d + 1, best, b => bestB S Q d (if Q b = true then (match best with | none => some (S b) | some r => if shB (S b) r = true then some (S b) else some r) else best) (b + 1)
def Bst (S : Nat → List Int) (Q : Nat → Bool) (lim : Nat) (A : List Int → Prop) : Option (List Int) → Prop
  | some r => (A r ∨ ∃ b, b < lim ∧ Q b = true ∧ r = S b) ∧ (∀ b, b < lim → Q b = true → shB (S b) r = false) ∧ ∀ x, A x → shB x r = false
  | none => (∀ b, b < lim → Q b = false) ∧ ∀ x, ¬ A x
theorem bst_step (S : Nat → List Int) (Q : Nat → Bool) (A : List Int → Prop) (b : Nat) : ∀ best, Bst S Q b A best → Bst S Q (b + 1) A (if Q b = true then (match best with | none => some (S b) | some r => if shB (S b) r = true then some (S b) else some r) else best)
  | none, ⟨h1, h2⟩ => by
    cases hq : Q b with
    | true =>
      rw [if_pos rfl]
      refine ⟨.inr ⟨b, by omega, hq, rfl⟩, ?_, fun x hx => absurd hx (h2 x)⟩
      intro c hc hqc
      by_cases e : c = b
      · rw [e]; exact shB_irrefl _
      · rw [h1 c (by omega)] at hqc; cases hqc
    | false =>
      rw [if_neg (by simp)]
      refine ⟨fun c hc => ?_, h2⟩
      by_cases e : c = b
      · rw [e]; exact hq
      · exact h1 c (by omega)
  | some r, ⟨h1, h2, h3⟩ => by
    have h1' : A r ∨ ∃ c, c < b + 1 ∧ Q c = true ∧ r = S c := by
      rcases h1 with h | ⟨c, a1, a2, a3⟩
      · exact .inl h
      · exact .inr ⟨c, by omega, a2, a3⟩
    cases hq : Q b with
    | true =>
      rw [if_pos rfl]
      simp only []
      cases hs : shB (S b) r with
      | true =>
        rw [if_pos rfl]
        refine ⟨.inr ⟨b, by omega, hq, rfl⟩, ?_, fun x hx => shB_keep _ _ _ (h3 x hx) hs⟩
        intro c hc hqc
        by_cases e : c = b
        · rw [e]; exact shB_irrefl _
        · exact shB_keep _ _ _ (h2 c (by omega) hqc) hs
      | false =>
        rw [if_neg (by simp)]
        refine ⟨h1', ?_, h3⟩
        intro c hc hqc
        by_cases e : c = b
        · rw [e]; exact hs
        · exact h2 c (by omega) hqc
    | false =>
      rw [if_neg (by simp)]
      refine ⟨h1', ?_, h3⟩
      intro c hc hqc
      by_cases e : c = b
      · rw [e, hq] at hqc; cases hqc
      · exact h2 c (by omega) hqc
theorem bst_all (S : Nat → List Int) (Q : Nat → Bool) (A : List Int → Prop) : ∀ (d b : Nat) best, Bst S Q b A best → Bst S Q (b + d) A (bestB S Q d best b)
  | 0, b, best, h => h
  | d + 1, b, best, h => by
    have := bst_all S Q A d (b + 1) _ (bst_step S Q A b best h)
    rw [show b + (d + 1) = b + 1 + d from by omega]
    exact this
theorem before_lex (a b : List Int) (ha : a.length ≤ 1000) (hb : b.length ≤ 1000) : ∀ (d k i : Nat), a.length - i = d → 2 * d + 2 ≤ k → i ≤ a.length → contangoref11_Before.l0 k a b (i : Int) = some (lexB (a.drop i) (b.drop i))
  | d, k, i, hd, hk, hi => by
    obtain ⟨k, rfl⟩ : ∃ m, k = m + 2 := ⟨k - 2, by omega⟩
    rw [contangoref11_Before.l0]
    by_cases h : i < a.length
    · rw [if_pos (by omega), contangoref11_Before.j1]
      by_cases h2 : i < b.length
      · rw [if_pos (by simp; omega), if_pos (by omega), if_pos (by omega), if_pos (by omega), drop_rd a i h, drop_rd b i h2]
        unfold lexB
        by_cases h3 : rd a (i : Int) = rd b (i : Int)
        · rw [if_pos h3, if_pos h3, wsucc i (by omega)]
          exact before_lex a b ha hb (a.length - (i + 1)) k (i + 1) rfl (by omega) (by omega)
        · rw [if_neg h3, if_neg h3]
      · rw [if_neg (by simp; omega), drop_rd a i h, List.drop_of_length_le (show b.length ≤ i by omega)]
        unfold lexB
        rw [decide_eq_false (by omega)]
    · rw [if_neg (by omega), contangoref11_Before.j1, if_neg (by simp), List.drop_of_length_le (show a.length ≤ i by omega)]
      unfold lexB
      congr 1
      exact dec_iff (by simp; omega)
  termination_by d => d
  decreasing_by omega
theorem before_f (k : Nat) (a b : List Int) (ha : a.length ≤ 1000) (hb : b.length ≤ 1000) (hk : 2 * a.length + 2 ≤ k) : contangoref11_Before.f k a b = some (lexB a b) := by
  unfold contangoref11_Before.f
  rw [show (0 : Int) = ((0 : Nat) : Int) from rfl, before_lex a b ha hb a.length k 0 (by omega) hk (by omega)]; rfl
end Go.Proofs.Ytgjifkegfbpjkaa.Q
end
