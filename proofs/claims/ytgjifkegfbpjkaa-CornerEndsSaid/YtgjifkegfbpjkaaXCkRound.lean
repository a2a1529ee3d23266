/- Laws of the machine: what is shown of operations outside the rounds of a loop over a function holds within them. -/
import Derived.StillTail
import Derived.RangeFuncCalls
import Derived.TacticsIn
import Derived.OrdersIn
section
namespace Go.Proofs.Ytgjifkegfbpjkaa
open Go Go.RowKit
section
variable {l n : Nat} {P : Program} {md : Region.Mode} {ops : Array Oper} {Q : Exit → Act → World → Prop}
def noDefer (l : List Oper) : Prop := ∀ o ∈ l, ∀ c, o.op ≠ .defer c
theorem op_round {o : Oper} {a : Act} {w : World} {K K' : Act → World → Prop} (hd : ∀ c, o.op ≠ .defer c) (hq : ¬ LetsOut Q) (hK : ∀ a w, K a w → K' a w) (h : o.wp P a w K Q ∨ (o.asks P a w ∧ LetsOut Q)) :
    o.wpIn (Fence.wide.inRound l) n P a w K' Q := by
  rcases h with h | ⟨_, h⟩
  case inr => exact absurd h hq
  refine ⟨fun _ _ => trivial, ?_⟩
  rw [Oper.semAt_eq _ _ _ hd]
  unfold Oper.wp at h
  generalize (execOp a.eval o).run P w = r at h ⊢
  cases r with
  | halt x w' => cases x <;> first | exact h | exact h.elim
  | ok x w' =>
    cases x with
    | value v => exact hK _ _ h
    | skip => exact hK _ _ h
    | defer d => exact hK _ _ h
    | enter f args =>
      refine ⟨fun hd => by simp [Fence.inRound, Fence.wide] at hd, ?_⟩
      refine CallsIn.inRound l (callsIn_wide.2 ?_)
      refine Calls.mono h ?_
      rintro e w'' he
      cases e with
      | returned v => exact hK _ _ he
      | panicked c => exact he
      | outgrown => exact he
    | row r args =>
      refine ⟨fun hd => by simp [Fence.inRound, Fence.wide] at hd, ?_⟩
      intro c cs _
      obtain ⟨v, w2, hr, hs⟩ := h c cs
      exact ⟨v, w2, hK _ _ hr, stepsIn_wide.2 hs⟩
    | _ => exact h.elim
theorem list_round (hq : ¬ LetsOut Q) : ∀ (l' : List Oper) (a : Act) (w : World), noDefer l' → wpList P ops Q l' a w → wpListIn (Fence.wide.inRound l) n P ops Q l' a w
  | [], _, _, _, h => h
  | o :: l', a, w, hd, h => by
    have ih := fun a w => list_round hq l' a w (fun o ho => hd o (List.mem_cons_of_mem _ ho))
    unfold wpList at h
    unfold wpListIn
    split at h
    · rename_i hw
      rw [if_pos hw]
      exact op_round (hd o List.mem_cons_self) hq ih h
    · rename_i hw
      rw [if_neg hw]
      exact ⟨fun _ _ => trivial, ih _ _ h⟩
theorem any_round (hq : ¬ LetsOut Q) (hd : ∀ (i : Nat) (o : Oper), ops[i]? = some o → ∀ c, o.op ≠ .defer c) : ∀ (fuel : Nat) (listed : Array Bool) (a : Act) (w : World), wpAny P md ops Q fuel listed a w → wpAnyIn (Fence.wide.inRound l) n P md ops Q fuel listed a w
  | 0, _, _, _, h => h
  | fuel + 1, listed, a, w, h => by
    refine ⟨h.1, fun i hi => ?_⟩
    have h2 := h.2 i hi
    unfold wpOp at h2
    unfold wpOpIn
    cases ho : ops[i]? with
    | none => rw [ho] at h2; exact any_round hq hd fuel _ _ _ h2
    | some o =>
      rw [ho] at h2
      dsimp only at h2 ⊢
      split at h2
      · rename_i hw
        rw [if_pos hw]
        exact op_round (hd i o ho) hq (fun a w => any_round hq hd fuel _ a w) h2
      · rename_i hw
        rw [if_neg hw]
        exact ⟨fun _ _ => trivial, any_round hq hd fuel _ _ _ h2⟩
def deferB (l : List Oper) : Bool := l.all fun o => match o.op with | .defer _ => false | _ => true
theorem deferB_out {l : List Oper} (h : deferB l = true) : noDefer l := by
  intro o ho c e
  have := List.all_eq_true.1 h o ho
  rw [e] at this
  cases this
theorem region_round {id : Nat} {a : Act} {w : World} {r : List Oper} (hq : ¬ LetsOut Q) (hd : deferB r = true) (h : wpList P r.toArray Q r a w) : (Code.region id r.toArray false).wpIn (Fence.wide.inRound l) n P Q a w :=
  wpIn_region_lit (list_round hq r a w (deferB_out hd) h)
theorem tail_round {id : Nat} {a : Act} {w : World} {r : List Oper} (m : Nat) (hq : ¬ LetsOut Q) (hd : deferB r = true) (hm : P.follows .mixedOrders = true) (hB : Region.lexTailB .any r.toArray m = true)
    (h : wpStill P r.toArray { w with drawn := w.drawn + 1 } (fun a' => wpList P r.toArray Q (r.drop m) a' { w with drawn := w.drawn + 1 }) (r.take m) a) : (Code.region id r.toArray true).wpIn (Fence.wide.inRound l) n P Q a w := by
  refine wpIn_region_any hm (any_round hq (fun i o ho => deferB_out hd o (List.mem_of_getElem? (by simpa using ho))) _ _ _ _ ?_)
  simp only [Region.lexTailB, Bool.and_eq_true, decide_eq_true_eq] at hB
  obtain ⟨⟨⟨⟨hsel, hn⟩, hs⟩, hc⟩, hlex⟩ := hB
  have hn' : m < r.length := by simpa using hn
  have htl : (r.take m).length = m := by simp; omega
  have hdl : (r.drop m).length = r.toArray.size - m := by simp
  have inv0 : HeadInv .any r.toArray m (Array.replicate r.toArray.size false) :=
    ⟨by simp, fun j oj _ hl => (by rw [getD_replicate_false] at hl; cases hl), fun t _ ht => getD_in (by simpa using ht) (getD_replicate_false _ _)⟩
  have H := wpAnyL_lex (md := .any) (g := r.toArray.size - m) hsel hs hc hn (r.take m) 0 _ a (fun j hj => by
    have hj' : j < m := by rw [htl] at hj; exact hj
    simp [hj']) (by simpa using htl) inv0 (by rw [htl]; exact hlex) h
  have := wpAny_of_head (Q' := Q) (g := r.toArray.size - m) (fun listed a' hL => by
    have := wpAny_of_seq (md := .any) (Q' := Q) (r.drop m) m listed a' { w with drawn := w.drawn + 1 } (fun j => by simp [List.getElem?_drop]) (by rw [hdl]; exact hL.1) hL.2
    rwa [hdl] at this) _ _ _ H
  rw [htl, show m + (r.toArray.size - m) = r.toArray.size by omega] at this
  exact this
end
end Go.Proofs.Ytgjifkegfbpjkaa
end
