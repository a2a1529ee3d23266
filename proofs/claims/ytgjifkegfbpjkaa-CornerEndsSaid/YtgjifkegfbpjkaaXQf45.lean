/- Walks of functions of the seat, by a program of this session's over the kit's print: each contract says what a call comes to. -/
import Derived.Test.YtgjifkegfbpjkaaXBase
import Derived.Test.YtgjifkegfbpjkaaXSmall
import Derived.Test.YtgjifkegfbpjkaaXQf24
section
namespace Go.Proofs.Ytgjifkegfbpjkaa.Q
open Go.RowKit Go.Proofs.YtgjifkegfbpjkaaW.PrintWords Go.Proofs.YtgjifkegfbpjkaaW.PrintLast Go.Proofs.YtgjifkegfbpjkaaW.PrintMore
attribute [local go_sem] max2_int min2_int max_two min_two max_three min_three max_four min_four
set_option linter.unusedVariables false
set_option linter.unusedSimpArgs false
def contangolaw11_ready.f (k : Nat) (a0_0 : Int) (l0_1 : List (S88)) (l0_2 : List (S101)) : Option (Bool) := (contangolaw11_Thin.f a0_0 l0_1 l0_2 ([] : List Int)).bind fun t722 => (if t722 = true then ((contangolaw11_fault.f k a0_0 l0_1 l0_2).bind fun t723 => (some (t723 == 0))) else (some false))
theorem contangolaw11_ready.mono : ∀ a0 a1 a2 k, LeO (contangolaw11_ready.f k a0 a1 a2) (contangolaw11_ready.f (k + 1) a0 a1 a2) := by
  intro a0 a1 a2 k
  unfold contangolaw11_ready.f
  repeat' first
      | (with_reducible exact contangolaw11_fault.mono _ _ _ _)
      | (with_reducible exact LeO.refl _)
      | (with_reducible exact LeO.none _)
      | (with_reducible refine LeO.ite ?_ ?_)
      | (with_reducible refine LeO.bind ?_ (fun _ => ?_))
      | exact contangolaw11_fault.mono _ _ _ _
      | exact LeO.none _
      | refine LeO.ite ?_ ?_
      | refine LeO.bind ?_ (fun _ => ?_)
set_option maxHeartbeats 8000000 in
set_option maxRecDepth 100000 in
theorem contangolaw11_ready.calls (k : Nat) (a0_0 : Int) (A0_1 : Option Addr) (c0_1 : Nat) (l0_1 : List (S88)) (A0_2 : Option Addr) (c0_2 : Nat) (l0_2 : List (S101)) (r : Bool) (w : World) (hr0_1 : Kd.C k88 w A0_1 l0_1.length l0_1) (hc0_1 : l0_1.length ≤ c0_1) (hr0_2 : Kd.C k101 w A0_2 l0_2.length l0_2) (hc0_2 : l0_2.length ≤ c0_2) (h : contangolaw11_ready.f k a0_0 l0_1 l0_2 = some r) :
    Calls Try.prog 45 #[.agg #[.int .i64 a0_0, .slice A0_1 l0_1.length c0_1, .slice A0_2 l0_2.length c0_2]] w fun e w' => e = .returned (.bool r) ∧ Below w.heap.size w w' := by
  have hu25 := Try.underlying25
  have HR0_1 := Aside0.mk hr0_1
  have HC0_1 := Aside0.mk hc0_1
  clear hr0_1 hc0_1
  have HR0_2 := Aside0.mk hr0_2
  have HC0_2 := Aside0.mk hc0_2
  clear hr0_2 hc0_2
  have HB := Aside0.mk (Below.refl w.heap.size w)
  have H : ((contangolaw11_Thin.f a0_0 l0_1 l0_2 ([] : List Int)).bind fun t722 => (if t722 = true then ((contangolaw11_fault.f k a0_0 l0_1 l0_2).bind fun t723 => (some (t723 == 0))) else (some false))) = some r := h
  clear h
  replace H := Option.bind_eq_some_iff.mp H
  obtain ⟨t722, A20, H⟩ := H
  replace H : (if t722 = true then ((contangolaw11_fault.f k a0_0 l0_1 l0_2).bind fun t723 => (some (t723 == 0))) else (some false)) = some r := H
  have A2 := Aside0.mk A20
  clear A20
  by_cases c3 : t722 = true
  · subst c3
    have H1 : ((contangolaw11_fault.f k a0_0 l0_1 l0_2).bind fun t723 => (some (t723 == 0))) = some r := by rw [if_pos rfl] at H; exact H
    clear H
    have H := H1
    clear H1
    replace H := Option.bind_eq_some_iff.mp H
    obtain ⟨t723, A40, H⟩ := H
    replace H : (some (t723 == 0)) = some r := H
    have A4 := Aside0.mk A40
    clear A40
    obtain rfl := Option.some.inj H
    go_enter Try.func45, Try.ntmps45
    go_wp2_with (first | ((with_reducible refine gate_dst (N := 1) rfl ?_); refine box_event ?hg (N := 1) ?hd (cs := #[.int .i64 a0_0, .slice A0_1 l0_1.length c0_1, .slice A0_2 l0_2.length c0_2]) (t := 25) ?hr ?_; (case hd => rfl); (case hg => rfl); (case hr => exact hr_); intro gb721 hg w5 hbox hb; have n0_ := Aside0.mk (below_step bs_ hb); have n1_ := Aside0.mk (hbox); have n2_ := Aside0.mk (gs_ w hg); have n3_ := Aside0.mk (gs_ w hg); clear HB; have HB := n0_; have BK721 := n1_; have GW721 := n2_; have GE721 := n3_; clear n0_ n1_ n2_ n3_; clear hb hbox hg; have hcz6_0 : w5.cell? ⟨gb721, 0, none⟩ = some (.int .i64 a0_0) := (blk_cell BK721.out 0).trans rfl; have hcz6_1 : w5.cell? ⟨gb721, 1, none⟩ = some (.slice A0_1 l0_1.length c0_1) := (blk_cell BK721.out 1).trans rfl; have hcz6_2 : w5.cell? ⟨gb721, 2, none⟩ = some (.slice A0_2 l0_2.length c0_2) := (blk_cell BK721.out 2).trans rfl; have hfz6_0 := blk_frozen BK721.out 0; have hfz6_1 := blk_frozen BK721.out 1; have hfz6_2 := blk_frozen BK721.out 2) | ((with_reducible refine gate_callee (f := 18) rfl ?_); refine goesL_ (some 4) rfl rfl Try.func18 (by kernel_rfl) rfl #[.agg #[.int .i64 a0_0, .slice A0_1 l0_1.length c0_1, .slice A0_2 l0_2.length c0_2], .slice none 0 0] rfl ga_ ?_; (refine (contangolaw11_Thin.calls a0_0 _ _ l0_1 _ _ l0_2 _ _ ([] : List Int) true _ ?side1 ?side2 ?side3 ?side4 ?side5 ?side6 A2.out).mono ?_); (case side1 => exact kc_ HR0_1.out); (case side2 => exact HC0_1.out); (case side3 => exact kc_ HR0_2.out); (case side4 => exact HC0_2.out); (case side5 => exact Kd.C_nil _ _); (case side6 => exact Nat.le_refl _); rintro e w7 ⟨rfl, hb⟩; refine ⟨_, rfl, ?_⟩; have n0_ := Aside0.mk (blk_below BK721.out hb); have n1_ := Aside0.mk (below_step bs_ hb); clear BK721; clear HB; have BK721 := n0_; have HB := n1_; clear n0_ n1_; (try clear hb); (try clear hb2); (try clear hk); (try clear hi); have hcz8_0 : w7.cell? ⟨gb721, 0, none⟩ = some (.int .i64 a0_0) := (blk_cell BK721.out 0).trans rfl; have hcz8_1 : w7.cell? ⟨gb721, 1, none⟩ = some (.slice A0_1 l0_1.length c0_1) := (blk_cell BK721.out 1).trans rfl; have hcz8_2 : w7.cell? ⟨gb721, 2, none⟩ = some (.slice A0_2 l0_2.length c0_2) := (blk_cell BK721.out 2).trans rfl; have hfz8_0 := blk_frozen BK721.out 0; have hfz8_1 := blk_frozen BK721.out 1; have hfz8_2 := blk_frozen BK721.out 2) | (go_at_call 24; (with_reducible refine (contangolaw11_fault.calls k a0_0 _ _ l0_1 _ _ l0_2 t723 _ ?side1 ?side2 ?side3 ?side4 A4.out).mono ?_); (case side1 => exact kc_ HR0_1.out); (case side2 => exact HC0_1.out); (case side3 => exact kc_ HR0_2.out); (case side4 => exact HC0_2.out); rintro e w9 ⟨rfl, hb⟩; have n0_ := Aside0.mk (blk_below BK721.out hb); have n1_ := Aside0.mk (below_step bs_ hb); clear BK721; clear HB; have BK721 := n0_; have HB := n1_; clear n0_ n1_; (try clear hb); (try clear hb2); (try clear hk); (try clear hi)))
    go_ret
    exact ⟨fx_, bs_⟩
  · replace c3 := Bool.eq_false_iff.mpr c3
    subst c3
    have H1 : (some false) = some r := by rw [if_neg (show ¬ (false = true) by decide)] at H; exact H
    clear H
    have H := H1
    clear H1
    obtain rfl := Option.some.inj H
    go_enter Try.func45, Try.ntmps45
    go_wp2_with (first | ((with_reducible refine gate_dst (N := 1) rfl ?_); refine box_event ?hg (N := 1) ?hd (cs := #[.int .i64 a0_0, .slice A0_1 l0_1.length c0_1, .slice A0_2 l0_2.length c0_2]) (t := 25) ?hr ?_; (case hd => rfl); (case hg => rfl); (case hr => exact hr_); intro gb721 hg w10 hbox hb; have n0_ := Aside0.mk (below_step bs_ hb); have n1_ := Aside0.mk (hbox); have n2_ := Aside0.mk (gs_ w hg); have n3_ := Aside0.mk (gs_ w hg); clear HB; have HB := n0_; have BK721 := n1_; have GW721 := n2_; have GE721 := n3_; clear n0_ n1_ n2_ n3_; clear hb hbox hg; have hcz11_0 : w10.cell? ⟨gb721, 0, none⟩ = some (.int .i64 a0_0) := (blk_cell BK721.out 0).trans rfl; have hcz11_1 : w10.cell? ⟨gb721, 1, none⟩ = some (.slice A0_1 l0_1.length c0_1) := (blk_cell BK721.out 1).trans rfl; have hcz11_2 : w10.cell? ⟨gb721, 2, none⟩ = some (.slice A0_2 l0_2.length c0_2) := (blk_cell BK721.out 2).trans rfl; have hfz11_0 := blk_frozen BK721.out 0; have hfz11_1 := blk_frozen BK721.out 1; have hfz11_2 := blk_frozen BK721.out 2) | ((with_reducible refine gate_callee (f := 18) rfl ?_); refine goesL_ (some 4) rfl rfl Try.func18 (by kernel_rfl) rfl #[.agg #[.int .i64 a0_0, .slice A0_1 l0_1.length c0_1, .slice A0_2 l0_2.length c0_2], .slice none 0 0] rfl ga_ ?_; (refine (contangolaw11_Thin.calls a0_0 _ _ l0_1 _ _ l0_2 _ _ ([] : List Int) false _ ?side1 ?side2 ?side3 ?side4 ?side5 ?side6 A2.out).mono ?_); (case side1 => exact kc_ HR0_1.out); (case side2 => exact HC0_1.out); (case side3 => exact kc_ HR0_2.out); (case side4 => exact HC0_2.out); (case side5 => exact Kd.C_nil _ _); (case side6 => exact Nat.le_refl _); rintro e w12 ⟨rfl, hb⟩; refine ⟨_, rfl, ?_⟩; have n0_ := Aside0.mk (blk_below BK721.out hb); have n1_ := Aside0.mk (below_step bs_ hb); clear BK721; clear HB; have BK721 := n0_; have HB := n1_; clear n0_ n1_; (try clear hb); (try clear hb2); (try clear hk); (try clear hi)))
    go_ret
    exact ⟨fx_, bs_⟩
end Go.Proofs.Ytgjifkegfbpjkaa.Q
end
