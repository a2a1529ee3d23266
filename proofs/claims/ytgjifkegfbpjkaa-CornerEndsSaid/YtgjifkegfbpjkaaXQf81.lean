/- Walks of functions of the seat, by a program of this session's over the kit's print: each contract says what a call comes to. -/
import Derived.Test.YtgjifkegfbpjkaaXBase
section
namespace Go.Proofs.Ytgjifkegfbpjkaa.Q
open Go.RowKit Go.Proofs.YtgjifkegfbpjkaaW.PrintWords Go.Proofs.YtgjifkegfbpjkaaW.PrintLast Go.Proofs.YtgjifkegfbpjkaaW.PrintMore
attribute [local go_sem] max2_int min2_int max_two min_two max_three min_three max_four min_four
set_option linter.unusedVariables false
set_option linter.unusedSimpArgs false
def contangoref11_Nth.l0 : Nat → Int → List Int → Int → Int → Int → List (S88) → List (S101) → Option (List Int)
  | 0, _, _, _, _, _, _, _ => none
  | k + 1, x1, x5, x6, x7, x309000, x309001, x309002 => if x7 < (wrap64 ((x309001.length : Int) - 1)) then (if 0 ≤ x7 then (if x7 < (x309001.length : Int) then (if (wrap64 ((wrap64 (((rd_T88 x309001 x7).f0.f1) - ((rd_T88 x309001 x7).f0.f0))) + 1)) = 0 then (none) else (if x5.length < 17592186044416 then (contangoref11_Nth.l0 k (wrap64 (Int.tdiv x1 (wrap64 ((wrap64 (((rd_T88 x309001 x7).f0.f1) - ((rd_T88 x309001 x7).f0.f0))) + 1)))) (x5 ++ [wrap64 (((rd_T88 x309001 x7).f0.f0) + (Int.tmod x1 (wrap64 ((wrap64 (((rd_T88 x309001 x7).f0.f1) - ((rd_T88 x309001 x7).f0.f0))) + 1))))]) (wrap64 (x6 - (wrap64 (((rd_T88 x309001 x7).f0.f0) + (Int.tmod x1 (wrap64 ((wrap64 (((rd_T88 x309001 x7).f0.f1) - ((rd_T88 x309001 x7).f0.f0))) + 1))))))) (wrap64 (x7 + 1)) x309000 x309001 x309002) else (none))) else (none)) else (none)) else (if x5.length < 17592186044416 then (some (x5 ++ [x6])) else (none))
def contangoref11_Nth.f (k : Nat) (a0_0 : Int) (l0_1 : List (S88)) (l0_2 : List (S101)) (a1 : Int) : Option (List Int) := contangoref11_Nth.l0 k a1 ([] : List Int) a0_0 0 a0_0 l0_1 l0_2
theorem contangoref11_Nth.mono_l : ∀ k, (∀ y0 y1 y2 y3 y4 y5 y6, LeO (contangoref11_Nth.l0 k y0 y1 y2 y3 y4 y5 y6) (contangoref11_Nth.l0 (k + 1) y0 y1 y2 y3 y4 y5 y6))
  | 0 => fun _ _ _ _ _ _ _ r h => by simp [contangoref11_Nth.l0] at h
  | k + 1 => by
    have ih0 := contangoref11_Nth.mono_l k
    · intro y0 y1 y2 y3 y4 y5 y6
      unfold contangoref11_Nth.l0
      repeat' first
      | (with_reducible exact ih0 _ _ _ _ _ _ _)
      | (with_reducible exact LeO.refl _)
      | (with_reducible exact LeO.none _)
      | (with_reducible refine LeO.ite ?_ ?_)
      | (with_reducible refine LeO.bind ?_ (fun _ => ?_))
      | exact ih0 _ _ _ _ _ _ _
      | exact LeO.none _
      | refine LeO.ite ?_ ?_
      | refine LeO.bind ?_ (fun _ => ?_)
theorem contangoref11_Nth.mono : ∀ a0 a1 a2 a3 k, LeO (contangoref11_Nth.f k a0 a1 a2 a3) (contangoref11_Nth.f (k + 1) a0 a1 a2 a3) := by
  intro a0 a1 a2 a3 k
  have ih0 := contangoref11_Nth.mono_l k
  unfold contangoref11_Nth.f
  repeat' first
      | (with_reducible exact ih0 _ _ _ _ _ _ _)
      | (with_reducible exact LeO.refl _)
      | (with_reducible exact LeO.none _)
      | (with_reducible refine LeO.ite ?_ ?_)
      | (with_reducible refine LeO.bind ?_ (fun _ => ?_))
      | exact ih0 _ _ _ _ _ _ _
      | exact LeO.none _
      | refine LeO.ite ?_ ?_
      | refine LeO.bind ?_ (fun _ => ?_)
set_option maxHeartbeats 8000000 in
set_option maxRecDepth 100000 in
theorem contangoref11_Nth.calls (k : Nat) (a0_0 : Int) (A0_1 : Option Addr) (c0_1 : Nat) (l0_1 : List (S88)) (A0_2 : Option Addr) (c0_2 : Nat) (l0_2 : List (S101)) (a1 : Int) (r : List Int) (w : World) (hr0_1 : Kd.C k88 w A0_1 l0_1.length l0_1) (hc0_1 : l0_1.length ≤ c0_1) (hr0_2 : Kd.C k101 w A0_2 l0_2.length l0_2) (hc0_2 : l0_2.length ≤ c0_2) (h : contangoref11_Nth.f k a0_0 l0_1 l0_2 a1 = some r) :
    Calls Try.prog 81 #[.agg #[.int .i64 a0_0, .slice A0_1 l0_1.length c0_1, .slice A0_2 l0_2.length c0_2], .int .i64 a1] w fun e w' => ∃ v0_ : Value, e = .returned (v0_) ∧ Kd.R (Kd.int .i64) 3 w' w.heap.size (fun _ => True) v0_ r ∧ Below w.heap.size w w' := by
  have hu25 := Try.underlying25
  have hu53 := Try.underlying53
  have HR0_1 := Aside0.mk hr0_1
  have HC0_1 := Aside0.mk hc0_1
  clear hr0_1 hc0_1
  have HR0_2 := Aside0.mk hr0_2
  have HC0_2 := Aside0.mk hc0_2
  clear hr0_2 hc0_2
  have HB := Aside0.mk (Below.refl w.heap.size w)
  have H : (contangoref11_Nth.l0 k a1 ([] : List Int) a0_0 0 a0_0 l0_1 l0_2) = some r := h
  clear h
  have H' := Aside0.mk H
  clear H
  go_enter Try.func81, Try.ntmps81
  go_wp2_with (first | ((with_reducible refine gate_dst (N := 2) rfl ?_); refine box_event ?hg (N := 2) ?hd (cs := #[.int .i64 a0_0, .slice A0_1 l0_1.length c0_1, .slice A0_2 l0_2.length c0_2]) (t := 25) ?hr ?_; (case hd => rfl); (case hg => rfl); (case hr => exact hr_); intro gb308 hg w3 hbox hb; have n0_ := Aside0.mk (below_step bs_ hb); have n1_ := Aside0.mk (hbox); have n2_ := Aside0.mk (gs_ w hg); have n3_ := Aside0.mk (gs_ w hg); clear HB; have HB := n0_; have BK308 := n1_; have GW308 := n2_; have GE308 := n3_; clear n0_ n1_ n2_ n3_; clear hb hbox hg; have hcz4_0 : w3.cell? ⟨gb308, 0, none⟩ = some (.int .i64 a0_0) := (blk_cell BK308.out 0).trans rfl; have hcz4_1 : w3.cell? ⟨gb308, 1, none⟩ = some (.slice A0_1 l0_1.length c0_1) := (blk_cell BK308.out 1).trans rfl; have hcz4_2 : w3.cell? ⟨gb308, 2, none⟩ = some (.slice A0_2 l0_2.length c0_2) := (blk_cell BK308.out 2).trans rfl; have hfz4_0 := blk_frozen BK308.out 0; have hfz4_1 := blk_frozen BK308.out 1; have hfz4_2 := blk_frozen BK308.out 2))
  repeat (go_quiet (first | ((with_reducible refine gate_dst (N := 2) rfl ?_); refine box_event ?hg (N := 2) ?hd (cs := #[.int .i64 a0_0, .slice A0_1 l0_1.length c0_1, .slice A0_2 l0_2.length c0_2]) (t := 25) ?hr ?_; (case hd => rfl); (case hg => rfl); (case hr => exact hr_); intro gb308 hg w3 hbox hb; have n0_ := Aside0.mk (below_step bs_ hb); have n1_ := Aside0.mk (hbox); have n2_ := Aside0.mk (gs_ w hg); have n3_ := Aside0.mk (gs_ w hg); clear HB; have HB := n0_; have BK308 := n1_; have GW308 := n2_; have GE308 := n3_; clear n0_ n1_ n2_ n3_; clear hb hbox hg; have hcz4_0 : w3.cell? ⟨gb308, 0, none⟩ = some (.int .i64 a0_0) := (blk_cell BK308.out 0).trans rfl; have hcz4_1 : w3.cell? ⟨gb308, 1, none⟩ = some (.slice A0_1 l0_1.length c0_1) := (blk_cell BK308.out 1).trans rfl; have hcz4_2 : w3.cell? ⟨gb308, 2, none⟩ = some (.slice A0_2 l0_2.length c0_2) := (blk_cell BK308.out 2).trans rfl; have hfz4_0 := blk_frozen BK308.out 0; have hfz4_1 := blk_frozen BK308.out 1; have hfz4_2 := blk_frozen BK308.out 2)); try go_wp2_with (first | ((with_reducible refine gate_dst (N := 2) rfl ?_); refine box_event ?hg (N := 2) ?hd (cs := #[.int .i64 a0_0, .slice A0_1 l0_1.length c0_1, .slice A0_2 l0_2.length c0_2]) (t := 25) ?hr ?_; (case hd => rfl); (case hg => rfl); (case hr => exact hr_); intro gb308 hg w3 hbox hb; have n0_ := Aside0.mk (below_step bs_ hb); have n1_ := Aside0.mk (hbox); have n2_ := Aside0.mk (gs_ w hg); have n3_ := Aside0.mk (gs_ w hg); clear HB; have HB := n0_; have BK308 := n1_; have GW308 := n2_; have GE308 := n3_; clear n0_ n1_ n2_ n3_; clear hb hbox hg; have hcz4_0 : w3.cell? ⟨gb308, 0, none⟩ = some (.int .i64 a0_0) := (blk_cell BK308.out 0).trans rfl; have hcz4_1 : w3.cell? ⟨gb308, 1, none⟩ = some (.slice A0_1 l0_1.length c0_1) := (blk_cell BK308.out 1).trans rfl; have hcz4_2 : w3.cell? ⟨gb308, 2, none⟩ = some (.slice A0_2 l0_2.length c0_2) := (blk_cell BK308.out 2).trans rfl; have hfz4_0 := blk_frozen BK308.out 0; have hfz4_1 := blk_frozen BK308.out 1; have hfz4_2 := blk_frozen BK308.out 2)))
  go_loopg [1, 5, 6, 7] k (fun kq v1 v5 v6 v7 w' => ∃ (x1_1 : Int) (x5_1 : List Int) (x6_1 : Int) (x7_1 : Int), v1 = .int .i64 x1_1 ∧ v6 = .int .i64 x6_1 ∧ v7 = .int .i64 x7_1 ∧ Aside0 (contangoref11_Nth.l0 kq x1_1 x5_1 x6_1 x7_1 a0_0 l0_1 l0_2 = some r) ∧ Aside0 (kq ≤ k) ∧ Aside0 (Kd.R (Kd.int .i64) 3 w' w.heap.size (fun _ => True) v5 x5_1) ∧ Aside0 (w'.heap[gb308]? = some (.cells #[.int .i64 a0_0, (.slice A0_1 l0_1.length c0_1), (.slice A0_2 l0_2.length c0_2)] 25 (0, 0))) ∧ Aside0 (Below w.heap.size w w'))
  case atStart => exact ⟨(a1), (([] : List Int)), (a0_0), (0), fy_, fy_, fy_, H', ⟨Nat.le_refl _⟩, ⟨by first | exact Kd.R_nil _ _ _ _ _ | exact Kd.N_nil _ _ _ _ _ | exact Kd.V_nil _ _ _ _ _ | exact Kd.Q_nil _ _ _ _ _ | exact Kd.S_nil _ _ _ _ _⟩, ⟨by exact BK308.out⟩, ⟨bs_⟩⟩
  case round =>
    clear H'
    try clear p2
    try clear hcz4_0
    try clear hcz4_1
    try clear hcz4_2
    try clear hfz4_0
    try clear hfz4_1
    try clear hfz4_2
    obtain ⟨x1_1, x5_1, x6_1, x7_1, rfl, rfl, rfl, HA, HK1, HO_5, BK308, HB⟩ := hrel
    cases gk with
    | zero => exact absurd HA.out (by simp [contangoref11_Nth.l0])
    | succ k1 =>
      have H := HA.out
      clear HA
      simp only [contangoref11_Nth.l0] at H
      by_cases c5 : x7_1 < (wrap64 ((l0_1.length : Int) - 1))
      · rw [if_pos c5] at H
        have c5b0 : decide (x7_1 < (wrap64 ((l0_1.length : Int) - 1))) = true := decide_eq_true c5
        clear c5
        by_cases c6 : 0 ≤ x7_1
        · rw [if_pos c6] at H
          have c6b0 : decide (0 ≤ x7_1) = true := decide_eq_true c6
          clear c6
          by_cases c7 : x7_1 < (l0_1.length : Int)
          · rw [if_pos c7] at H
            have c7b0 : decide (x7_1 < (l0_1.length : Int)) = true := decide_eq_true c7
            clear c7
            by_cases c8 : (wrap64 ((wrap64 (((rd_T88 l0_1 x7_1).f0.f1) - ((rd_T88 l0_1 x7_1).f0.f0))) + 1)) = 0
            · rw [if_pos c8] at H
              exact absurd H (by simp)
            · rw [if_neg c8] at H
              have c8b0 : ((wrap64 ((wrap64 (((rd_T88 l0_1 x7_1).f0.f1) - ((rd_T88 l0_1 x7_1).f0.f0))) + 1)) == 0) = false := beq_eq_false_iff_ne.mpr c8
              have c8b1 : ((wrap64 ((wrap64 (((rd_T88 l0_1 x7_1).f0.f1) - ((rd_T88 l0_1 x7_1).f0.f0))) + 1)) != 0) = true := bne_iff_ne.mpr c8
              by_cases c9 : x5_1.length < 17592186044416
              · rw [if_pos c9] at H
                have LMc9 := Aside0.mk c9
                clear c9
                obtain ⟨y311, hy311⟩ : ∃ y_ : List Int, y_ = (x5_1 ++ [wrap64 (((rd_T88 l0_1 x7_1).f0.f0) + (Int.tmod x1_1 (wrap64 ((wrap64 (((rd_T88 l0_1 x7_1).f0.f1) - ((rd_T88 l0_1 x7_1).f0.f0))) + 1))))]) := ⟨_, rfl⟩
                replace H : (contangoref11_Nth.l0 k1 (wrap64 (Int.tdiv x1_1 (wrap64 ((wrap64 (((rd_T88 l0_1 x7_1).f0.f1) - ((rd_T88 l0_1 x7_1).f0.f0))) + 1)))) y311 (wrap64 (x6_1 - (wrap64 (((rd_T88 l0_1 x7_1).f0.f0) + (Int.tmod x1_1 (wrap64 ((wrap64 (((rd_T88 l0_1 x7_1).f0.f1) - ((rd_T88 l0_1 x7_1).f0.f0))) + 1))))))) (wrap64 (x7_1 + 1)) a0_0 l0_1 l0_2) = some r := by first | (rw [hy311]; with_reducible exact H) | (have H2_ := (Option.bind_some _ _).symm.trans H; rw [hy311]; with_reducible exact H2_) | (have H2_ := (Option.bind_some _ _).symm.trans H; with_reducible exact H2_) | with_reducible exact H | (rw [hy311]; exact H) | exact H
                have Ny311 := Aside0.mk hy311
                clear hy311
                have H' := Aside0.mk H
                clear H
                have hcz10_0 : wr.cell? ⟨gb308, 0, none⟩ = some (.int .i64 a0_0) := (blk_cell BK308.out 0).trans rfl
                have hcz10_1 : wr.cell? ⟨gb308, 1, none⟩ = some (.slice A0_1 l0_1.length c0_1) := (blk_cell BK308.out 1).trans rfl
                have hcz10_2 : wr.cell? ⟨gb308, 2, none⟩ = some (.slice A0_2 l0_2.length c0_2) := (blk_cell BK308.out 2).trans rfl
                have hfz10_0 := blk_frozen BK308.out 0
                have hfz10_1 := blk_frozen BK308.out 1
                have hfz10_2 := blk_frozen BK308.out 2
                have p309 : 0 ≤ (x7_1 : Int) := of_decide_eq_true as_
                have q309 : x7_1 < (l0_1.length : Int) := of_decide_eq_true as_
                obtain ⟨ad309, e309, hx309_0, hx309_1, hx309_2, hx309_3⟩ := at_T88 HR0_1.out x7_1 p309 q309
                cases e309
                replace hx309_0 := (HB.out.cell (World.block_lt_of_cell? w _ hx309_0)).trans hx309_0
                replace hx309_1 := (HB.out.cell (World.block_lt_of_cell? w _ hx309_1)).trans hx309_1
                replace hx309_2 := (HB.out.cell (World.block_lt_of_cell? w _ hx309_2)).trans hx309_2
                replace hx309_3 := (HB.out.cell (World.block_lt_of_cell? w _ hx309_3)).trans hx309_3
                replace p309 := eq_true p309
                replace q309 := eq_true q309
                go_wp2_with (first | ((with_reducible refine gate_dst (N := 8) rfl ?_); refine box_event ?hg (N := 8) ?hd (cs := #[.int .i64 0, .int .i64 0]) (t := 53) ?hr ?_; (case hd => rfl); (case hg => rfl); (case hr => exact hr_); intro gb310 hg w11 hbox hb; have n0_ := Aside0.mk (Kd.R_below HO_5.out hb); have n1_ := Aside0.mk (blk_below BK308.out hb); have n2_ := Aside0.mk (below_step bs_ hb); have n3_ := Aside0.mk (hbox); have n4_ := Aside0.mk (gs_ w hg); have n5_ := Aside0.mk (gs_ w hg); have n6_ := Aside0.mk ((by rw [hg]; exact Nat.ne_of_lt (blk_lt BK308.out) : gb308 ≠ gb310)); have n7_ := Aside0.mk ((by rw [hg]; exact Nat.ne_of_gt (blk_lt BK308.out) : gb310 ≠ gb308)); clear HO_5; clear BK308; clear HB; have HO_5 := n0_; have BK308 := n1_; have HB := n2_; have BK310 := n3_; have GW310 := n4_; have GE310 := n5_; have NB308_310 := n6_; have NB310_308 := n7_; clear n0_ n1_ n2_ n3_ n4_ n5_ n6_ n7_; clear hb hbox hg; have hnb12 := NB310_308.out; have hnc12 := NB308_310.out; have hcz13_0 : w11.cell? ⟨gb310, 0, none⟩ = some (.int .i64 0) := (blk_cell BK310.out 0).trans rfl; have hcz13_1 : w11.cell? ⟨gb310, 1, none⟩ = some (.int .i64 0) := (blk_cell BK310.out 1).trans rfl; have hfz13_0 := blk_frozen BK310.out 0; have hfz13_1 := blk_frozen BK310.out 1) | ((with_reducible refine gate_builtin (b := .append) (xs := #[.tmp 45, .tmp 47]) rfl ?_); at_builtin; refine Kd.R_append (Kd.int .i64) (w0 := w) w.heap.size rfl (.tmp 45) (.tmp 47) 26 3 (.int .i64 0) 8 rfl Try.underlying26 info3 rfl (by decide) (by omega) u5 x5_1 (wrap64 (((rd_T88 l0_1 x7_1).f0.f0) + (Int.tmod x1_1 (wrap64 ((wrap64 (((rd_T88 l0_1 x7_1).f0.f1) - ((rd_T88 l0_1 x7_1).f0.f0))) + 1))))) [.int .i64 (wrap64 (((rd_T88 l0_1 x7_1).f0.f0) + (Int.tmod x1_1 (wrap64 ((wrap64 (((rd_T88 l0_1 x7_1).f0.f1) - ((rd_T88 l0_1 x7_1).f0.f0))) + 1)))))] (fun _ => True) (fun _ => False) rfl (by first | (go_simp; done) | (go_simp; rfl)) ?aP (fun _ hk => hk.elim) ?aF ?aO ?aB ?aS ?aL ?_; (case aP => exact rfl); (case aB => exact bs_); (case aF => exact (fun _ _ => trivial)); (case aO => exact (by (with_reducible repeat (first | apply Kd.R_alloc | apply Kd.R_drewN | apply Kd.R_drew)); exact Kd.R_mono (Kd.R_far (p := ⟨gb310, 1, none⟩) (Kd.R_far (p := ⟨gb310, 0, none⟩) (Kd.R_types HO_5.out BK310.out (by decide)) (fun _ hk => hk.2) (.int .i64 ((rd_T88 l0_1 x7_1).f0.f0))) (fun _ hk => hk.2) (.int .i64 ((rd_T88 l0_1 x7_1).f0.f1))) (fun _ hk => trivial))); (case aS => exact (below_size bs_)); (case aL => have := LMc9.out; omega); intro v312 w14 ho hb hg hat; rw [← Ny311.out] at ho; have n0_ := Aside0.mk (blk_grown (g := gb308) (o := .cells #[.int .i64 a0_0, .slice (some ad309) l0_1.length c0_1, .slice A0_2 l0_2.length c0_2] 25 (0, 0)) (by refine blk_far ?_ NB308_310.out _; refine blk_far ?_ NB308_310.out _; exact BK308.out) hg (Kd.R_ne HO_5.out BK308.out (by decide))); have n1_ := Aside0.mk (blk_grown (g := gb310) (o := .cells #[.int .i64 ((rd_T88 l0_1 x7_1).f0.f0), .int .i64 ((rd_T88 l0_1 x7_1).f0.f1)] 53 (0, 0)) (by refine blk_put (cs := #[.int .i64 ((rd_T88 l0_1 x7_1).f0.f0), .int .i64 0]) ?_ 1 _ rfl; refine blk_put (cs := #[.int .i64 0, .int .i64 0]) ?_ 0 _ rfl; exact BK310.out) hg (Kd.R_ne HO_5.out BK310.out (by decide))); have n2_ := Aside0.mk (hb); have n3_ := Aside0.mk (ho); clear BK308; clear BK310; clear HB; clear HO_5; have BK308 := n0_; have BK310 := n1_; have HB := n2_; have HO313 := n3_; clear n0_ n1_ n2_ n3_; clear ho hb hg hat))
                repeat (go_quiet (first | ((with_reducible refine gate_dst (N := 8) rfl ?_); refine box_event ?hg (N := 8) ?hd (cs := #[.int .i64 0, .int .i64 0]) (t := 53) ?hr ?_; (case hd => rfl); (case hg => rfl); (case hr => exact hr_); intro gb310 hg w11 hbox hb; have n0_ := Aside0.mk (Kd.R_below HO_5.out hb); have n1_ := Aside0.mk (blk_below BK308.out hb); have n2_ := Aside0.mk (below_step bs_ hb); have n3_ := Aside0.mk (hbox); have n4_ := Aside0.mk (gs_ w hg); have n5_ := Aside0.mk (gs_ w hg); have n6_ := Aside0.mk ((by rw [hg]; exact Nat.ne_of_lt (blk_lt BK308.out) : gb308 ≠ gb310)); have n7_ := Aside0.mk ((by rw [hg]; exact Nat.ne_of_gt (blk_lt BK308.out) : gb310 ≠ gb308)); clear HO_5; clear BK308; clear HB; have HO_5 := n0_; have BK308 := n1_; have HB := n2_; have BK310 := n3_; have GW310 := n4_; have GE310 := n5_; have NB308_310 := n6_; have NB310_308 := n7_; clear n0_ n1_ n2_ n3_ n4_ n5_ n6_ n7_; clear hb hbox hg; have hnb12 := NB310_308.out; have hnc12 := NB308_310.out; have hcz13_0 : w11.cell? ⟨gb310, 0, none⟩ = some (.int .i64 0) := (blk_cell BK310.out 0).trans rfl; have hcz13_1 : w11.cell? ⟨gb310, 1, none⟩ = some (.int .i64 0) := (blk_cell BK310.out 1).trans rfl; have hfz13_0 := blk_frozen BK310.out 0; have hfz13_1 := blk_frozen BK310.out 1) | ((with_reducible refine gate_builtin (b := .append) (xs := #[.tmp 45, .tmp 47]) rfl ?_); at_builtin; refine Kd.R_append (Kd.int .i64) (w0 := w) w.heap.size rfl (.tmp 45) (.tmp 47) 26 3 (.int .i64 0) 8 rfl Try.underlying26 info3 rfl (by decide) (by omega) u5 x5_1 (wrap64 (((rd_T88 l0_1 x7_1).f0.f0) + (Int.tmod x1_1 (wrap64 ((wrap64 (((rd_T88 l0_1 x7_1).f0.f1) - ((rd_T88 l0_1 x7_1).f0.f0))) + 1))))) [.int .i64 (wrap64 (((rd_T88 l0_1 x7_1).f0.f0) + (Int.tmod x1_1 (wrap64 ((wrap64 (((rd_T88 l0_1 x7_1).f0.f1) - ((rd_T88 l0_1 x7_1).f0.f0))) + 1)))))] (fun _ => True) (fun _ => False) rfl (by first | (go_simp; done) | (go_simp; rfl)) ?aP (fun _ hk => hk.elim) ?aF ?aO ?aB ?aS ?aL ?_; (case aP => exact rfl); (case aB => exact bs_); (case aF => exact (fun _ _ => trivial)); (case aO => exact (by (with_reducible repeat (first | apply Kd.R_alloc | apply Kd.R_drewN | apply Kd.R_drew)); exact Kd.R_mono (Kd.R_far (p := ⟨gb310, 1, none⟩) (Kd.R_far (p := ⟨gb310, 0, none⟩) (Kd.R_types HO_5.out BK310.out (by decide)) (fun _ hk => hk.2) (.int .i64 ((rd_T88 l0_1 x7_1).f0.f0))) (fun _ hk => hk.2) (.int .i64 ((rd_T88 l0_1 x7_1).f0.f1))) (fun _ hk => trivial))); (case aS => exact (below_size bs_)); (case aL => have := LMc9.out; omega); intro v312 w14 ho hb hg hat; rw [← Ny311.out] at ho; have n0_ := Aside0.mk (blk_grown (g := gb308) (o := .cells #[.int .i64 a0_0, .slice (some ad309) l0_1.length c0_1, .slice A0_2 l0_2.length c0_2] 25 (0, 0)) (by refine blk_far ?_ NB308_310.out _; refine blk_far ?_ NB308_310.out _; exact BK308.out) hg (Kd.R_ne HO_5.out BK308.out (by decide))); have n1_ := Aside0.mk (blk_grown (g := gb310) (o := .cells #[.int .i64 ((rd_T88 l0_1 x7_1).f0.f0), .int .i64 ((rd_T88 l0_1 x7_1).f0.f1)] 53 (0, 0)) (by refine blk_put (cs := #[.int .i64 ((rd_T88 l0_1 x7_1).f0.f0), .int .i64 0]) ?_ 1 _ rfl; refine blk_put (cs := #[.int .i64 0, .int .i64 0]) ?_ 0 _ rfl; exact BK310.out) hg (Kd.R_ne HO_5.out BK310.out (by decide))); have n2_ := Aside0.mk (hb); have n3_ := Aside0.mk (ho); clear BK308; clear BK310; clear HB; clear HO_5; have BK308 := n0_; have BK310 := n1_; have HB := n2_; have HO313 := n3_; clear n0_ n1_ n2_ n3_; clear ho hb hg hat)); try go_wp2_with (first | ((with_reducible refine gate_dst (N := 8) rfl ?_); refine box_event ?hg (N := 8) ?hd (cs := #[.int .i64 0, .int .i64 0]) (t := 53) ?hr ?_; (case hd => rfl); (case hg => rfl); (case hr => exact hr_); intro gb310 hg w11 hbox hb; have n0_ := Aside0.mk (Kd.R_below HO_5.out hb); have n1_ := Aside0.mk (blk_below BK308.out hb); have n2_ := Aside0.mk (below_step bs_ hb); have n3_ := Aside0.mk (hbox); have n4_ := Aside0.mk (gs_ w hg); have n5_ := Aside0.mk (gs_ w hg); have n6_ := Aside0.mk ((by rw [hg]; exact Nat.ne_of_lt (blk_lt BK308.out) : gb308 ≠ gb310)); have n7_ := Aside0.mk ((by rw [hg]; exact Nat.ne_of_gt (blk_lt BK308.out) : gb310 ≠ gb308)); clear HO_5; clear BK308; clear HB; have HO_5 := n0_; have BK308 := n1_; have HB := n2_; have BK310 := n3_; have GW310 := n4_; have GE310 := n5_; have NB308_310 := n6_; have NB310_308 := n7_; clear n0_ n1_ n2_ n3_ n4_ n5_ n6_ n7_; clear hb hbox hg; have hnb12 := NB310_308.out; have hnc12 := NB308_310.out; have hcz13_0 : w11.cell? ⟨gb310, 0, none⟩ = some (.int .i64 0) := (blk_cell BK310.out 0).trans rfl; have hcz13_1 : w11.cell? ⟨gb310, 1, none⟩ = some (.int .i64 0) := (blk_cell BK310.out 1).trans rfl; have hfz13_0 := blk_frozen BK310.out 0; have hfz13_1 := blk_frozen BK310.out 1) | ((with_reducible refine gate_builtin (b := .append) (xs := #[.tmp 45, .tmp 47]) rfl ?_); at_builtin; refine Kd.R_append (Kd.int .i64) (w0 := w) w.heap.size rfl (.tmp 45) (.tmp 47) 26 3 (.int .i64 0) 8 rfl Try.underlying26 info3 rfl (by decide) (by omega) u5 x5_1 (wrap64 (((rd_T88 l0_1 x7_1).f0.f0) + (Int.tmod x1_1 (wrap64 ((wrap64 (((rd_T88 l0_1 x7_1).f0.f1) - ((rd_T88 l0_1 x7_1).f0.f0))) + 1))))) [.int .i64 (wrap64 (((rd_T88 l0_1 x7_1).f0.f0) + (Int.tmod x1_1 (wrap64 ((wrap64 (((rd_T88 l0_1 x7_1).f0.f1) - ((rd_T88 l0_1 x7_1).f0.f0))) + 1)))))] (fun _ => True) (fun _ => False) rfl (by first | (go_simp; done) | (go_simp; rfl)) ?aP (fun _ hk => hk.elim) ?aF ?aO ?aB ?aS ?aL ?_; (case aP => exact rfl); (case aB => exact bs_); (case aF => exact (fun _ _ => trivial)); (case aO => exact (by (with_reducible repeat (first | apply Kd.R_alloc | apply Kd.R_drewN | apply Kd.R_drew)); exact Kd.R_mono (Kd.R_far (p := ⟨gb310, 1, none⟩) (Kd.R_far (p := ⟨gb310, 0, none⟩) (Kd.R_types HO_5.out BK310.out (by decide)) (fun _ hk => hk.2) (.int .i64 ((rd_T88 l0_1 x7_1).f0.f0))) (fun _ hk => hk.2) (.int .i64 ((rd_T88 l0_1 x7_1).f0.f1))) (fun _ hk => trivial))); (case aS => exact (below_size bs_)); (case aL => have := LMc9.out; omega); intro v312 w14 ho hb hg hat; rw [← Ny311.out] at ho; have n0_ := Aside0.mk (blk_grown (g := gb308) (o := .cells #[.int .i64 a0_0, .slice (some ad309) l0_1.length c0_1, .slice A0_2 l0_2.length c0_2] 25 (0, 0)) (by refine blk_far ?_ NB308_310.out _; refine blk_far ?_ NB308_310.out _; exact BK308.out) hg (Kd.R_ne HO_5.out BK308.out (by decide))); have n1_ := Aside0.mk (blk_grown (g := gb310) (o := .cells #[.int .i64 ((rd_T88 l0_1 x7_1).f0.f0), .int .i64 ((rd_T88 l0_1 x7_1).f0.f1)] 53 (0, 0)) (by refine blk_put (cs := #[.int .i64 ((rd_T88 l0_1 x7_1).f0.f0), .int .i64 0]) ?_ 1 _ rfl; refine blk_put (cs := #[.int .i64 0, .int .i64 0]) ?_ 0 _ rfl; exact BK310.out) hg (Kd.R_ne HO_5.out BK310.out (by decide))); have n2_ := Aside0.mk (hb); have n3_ := Aside0.mk (ho); clear BK308; clear BK310; clear HB; clear HO_5; have BK308 := n0_; have BK310 := n1_; have HB := n2_; have HO313 := n3_; clear n0_ n1_ n2_ n3_; clear ho hb hg hat)))
                go_roundg k1
                case measure => have := HK1.out; omega
                case rel => exact ⟨(wrap64 (Int.tdiv x1_1 (wrap64 ((wrap64 (((rd_T88 l0_1 x7_1).f0.f1) - ((rd_T88 l0_1 x7_1).f0.f0))) + 1)))), (y311), (wrap64 (x6_1 - (wrap64 (((rd_T88 l0_1 x7_1).f0.f0) + (Int.tmod x1_1 (wrap64 ((wrap64 (((rd_T88 l0_1 x7_1).f0.f1) - ((rd_T88 l0_1 x7_1).f0.f0))) + 1))))))), (wrap64 (x7_1 + 1)), fy_, fy_, fy_, H', ⟨by have := HK1.out; omega⟩, ⟨by (with_reducible repeat (first | apply Kd.R_alloc | apply Kd.R_drewN | apply Kd.R_drew)); exact HO313.out⟩, ⟨by exact BK308.out⟩, ⟨bs_⟩⟩
              · rw [if_neg c9] at H
                exact absurd H (by simp)
          · rw [if_neg c7] at H
            exact absurd H (by simp)
        · rw [if_neg c6] at H
          exact absurd H (by simp)
      · rw [if_neg c5] at H
        have c5b0 : decide (x7_1 < (wrap64 ((l0_1.length : Int) - 1))) = false := decide_eq_false c5
        clear c5
        by_cases c15 : x5_1.length < 17592186044416
        · rw [if_pos c15] at H
          have LMc15 := Aside0.mk c15
          clear c15
          obtain ⟨y314, hy314⟩ : ∃ y_ : List Int, y_ = (x5_1 ++ [x6_1]) := ⟨_, rfl⟩
          replace H : (some y314) = some r := by first | (rw [hy314]; with_reducible exact H) | (have H2_ := (Option.bind_some _ _).symm.trans H; rw [hy314]; with_reducible exact H2_) | (have H2_ := (Option.bind_some _ _).symm.trans H; with_reducible exact H2_) | with_reducible exact H | (rw [hy314]; exact H) | exact H
          have Ny314 := Aside0.mk hy314
          clear hy314
          obtain rfl := Option.some.inj H
          have hcz16_0 : wr.cell? ⟨gb308, 0, none⟩ = some (.int .i64 a0_0) := (blk_cell BK308.out 0).trans rfl
          have hcz16_1 : wr.cell? ⟨gb308, 1, none⟩ = some (.slice A0_1 l0_1.length c0_1) := (blk_cell BK308.out 1).trans rfl
          have hcz16_2 : wr.cell? ⟨gb308, 2, none⟩ = some (.slice A0_2 l0_2.length c0_2) := (blk_cell BK308.out 2).trans rfl
          have hfz16_0 := blk_frozen BK308.out 0
          have hfz16_1 := blk_frozen BK308.out 1
          have hfz16_2 := blk_frozen BK308.out 2
          go_wp2_with (first | ((with_reducible refine gate_builtin (b := .append) (xs := #[.tmp 52, .tmp 54]) rfl ?_); at_builtin; refine Kd.R_append (Kd.int .i64) (w0 := w) w.heap.size rfl (.tmp 52) (.tmp 54) 26 3 (.int .i64 0) 8 rfl Try.underlying26 info3 rfl (by decide) (by omega) u5 x5_1 x6_1 [.int .i64 x6_1] (fun _ => True) (fun _ => False) rfl rfl ?aP (fun _ hk => hk.elim) ?aF ?aO ?aB ?aS ?aL ?_; (case aP => exact rfl); (case aB => exact bs_); (case aF => exact (fun _ _ => trivial)); (case aO => exact HO_5.out); (case aS => exact (below_size bs_)); (case aL => have := LMc15.out; omega); intro v315 w17 ho hb hg hat; rw [← Ny314.out] at ho; have n0_ := Aside0.mk (blk_grown (g := gb308) (o := .cells #[.int .i64 a0_0, .slice A0_1 l0_1.length c0_1, .slice A0_2 l0_2.length c0_2] 25 (0, 0)) BK308.out hg (Kd.R_ne HO_5.out BK308.out (by decide))); have n1_ := Aside0.mk (hb); have n2_ := Aside0.mk (ho); clear BK308; clear HB; clear HO_5; have BK308 := n0_; have HB := n1_; have HO316 := n2_; clear n0_ n1_ n2_; clear ho hb hg hat))
          repeat (go_quiet (first | ((with_reducible refine gate_builtin (b := .append) (xs := #[.tmp 52, .tmp 54]) rfl ?_); at_builtin; refine Kd.R_append (Kd.int .i64) (w0 := w) w.heap.size rfl (.tmp 52) (.tmp 54) 26 3 (.int .i64 0) 8 rfl Try.underlying26 info3 rfl (by decide) (by omega) u5 x5_1 x6_1 [.int .i64 x6_1] (fun _ => True) (fun _ => False) rfl rfl ?aP (fun _ hk => hk.elim) ?aF ?aO ?aB ?aS ?aL ?_; (case aP => exact rfl); (case aB => exact bs_); (case aF => exact (fun _ _ => trivial)); (case aO => exact HO_5.out); (case aS => exact (below_size bs_)); (case aL => have := LMc15.out; omega); intro v315 w17 ho hb hg hat; rw [← Ny314.out] at ho; have n0_ := Aside0.mk (blk_grown (g := gb308) (o := .cells #[.int .i64 a0_0, .slice A0_1 l0_1.length c0_1, .slice A0_2 l0_2.length c0_2] 25 (0, 0)) BK308.out hg (Kd.R_ne HO_5.out BK308.out (by decide))); have n1_ := Aside0.mk (hb); have n2_ := Aside0.mk (ho); clear BK308; clear HB; clear HO_5; have BK308 := n0_; have HB := n1_; have HO316 := n2_; clear n0_ n1_ n2_; clear ho hb hg hat)); try go_wp2_with (first | ((with_reducible refine gate_builtin (b := .append) (xs := #[.tmp 52, .tmp 54]) rfl ?_); at_builtin; refine Kd.R_append (Kd.int .i64) (w0 := w) w.heap.size rfl (.tmp 52) (.tmp 54) 26 3 (.int .i64 0) 8 rfl Try.underlying26 info3 rfl (by decide) (by omega) u5 x5_1 x6_1 [.int .i64 x6_1] (fun _ => True) (fun _ => False) rfl rfl ?aP (fun _ hk => hk.elim) ?aF ?aO ?aB ?aS ?aL ?_; (case aP => exact rfl); (case aB => exact bs_); (case aF => exact (fun _ _ => trivial)); (case aO => exact HO_5.out); (case aS => exact (below_size bs_)); (case aL => have := LMc15.out; omega); intro v315 w17 ho hb hg hat; rw [← Ny314.out] at ho; have n0_ := Aside0.mk (blk_grown (g := gb308) (o := .cells #[.int .i64 a0_0, .slice A0_1 l0_1.length c0_1, .slice A0_2 l0_2.length c0_2] 25 (0, 0)) BK308.out hg (Kd.R_ne HO_5.out BK308.out (by decide))); have n1_ := Aside0.mk (hb); have n2_ := Aside0.mk (ho); clear BK308; clear HB; clear HO_5; have BK308 := n0_; have HB := n1_; have HO316 := n2_; clear n0_ n1_ n2_; clear ho hb hg hat)))
          go_ret
          exact ⟨_, by first | rfl | (simp [errW_none, errW_some] <;> rfl) | (simp [*, errW_none, errW_some] <;> rfl), by (with_reducible repeat (first | apply Kd.R_alloc | apply Kd.R_drewN | apply Kd.R_drew)); exact HO316.out, bs_⟩
        · rw [if_neg c15] at H
          exact absurd H (by simp)
end Go.Proofs.Ytgjifkegfbpjkaa.Q
end
