/- Walks of functions of the seat, by a program of this session's over the kit's print: each contract says what a call comes to. -/
import Derived.Test.YtgjifkegfbpjkaaXBase
section
namespace Go.Proofs.Ytgjifkegfbpjkaa.Q
open Go.RowKit Go.Proofs.YtgjifkegfbpjkaaW.PrintWords Go.Proofs.YtgjifkegfbpjkaaW.PrintLast Go.Proofs.YtgjifkegfbpjkaaW.PrintMore
attribute [local go_sem] max2_int min2_int max_two min_two max_three min_three max_four min_four
set_option linter.unusedVariables false
set_option linter.unusedSimpArgs false
mutual
def contangolaw11_Market.l0 : Nat → Int → Int → List (S88) → List (S101) → Int → List (S73) → Option (Int × (List (S73)) × (List (S75)))
  | 0, _, _, _, _, _, _ => none
  | k + 1, x4, x118000, x118001, x118002, x120000, x120001 => if x4 < (x118001.length : Int) then (if 0 ≤ x4 then (if x120001.length < 4398046511104 then (contangolaw11_Market.l0 k (wrap64 (x4 + 1)) x118000 x118001 x118002 x120000 (x120001 ++ [(⟨(⟨(rd_T88 x118001 x4).f0.f0, (rd_T88 x118001 x4).f0.f1⟩ : S46), (rd_T88 x118001 x4).f1, (rd_T88 x118001 x4).f2⟩ : S73)])) else (none)) else (none)) else (contangolaw11_Market.l1 k 0 x118000 x118001 x118002 x120000 x120001 ([] : List (S75)))
def contangolaw11_Market.l1 : Nat → Int → Int → List (S88) → List (S101) → Int → List (S73) → List (S75) → Option (Int × (List (S73)) × (List (S75)))
  | 0, _, _, _, _, _, _, _ => none
  | k + 1, x6, x118000, x118001, x118002, x120000, x120001, x120002 => if x6 < (x118002.length : Int) then (if 0 ≤ x6 then (if x120002.length < 5864062014805 then (contangolaw11_Market.l1 k (wrap64 (x6 + 1)) x118000 x118001 x118002 x120000 x120001 (x120002 ++ [(⟨(rd_T101 x118002 x6).f0, (rd_T101 x118002 x6).f1, (rd_T101 x118002 x6).f2⟩ : S75)])) else (none)) else (none)) else (some (x120000, x120001, x120002))
end
def contangolaw11_Market.f (k : Nat) (a0_0 : Int) (l0_1 : List (S88)) (l0_2 : List (S101)) : Option (Int × (List (S73)) × (List (S75))) := contangolaw11_Market.l0 k 0 a0_0 l0_1 l0_2 a0_0 ([] : List (S73))
theorem contangolaw11_Market.mono_l : ∀ k, (∀ y0 y1 y2 y3 y4 y5, LeO (contangolaw11_Market.l0 k y0 y1 y2 y3 y4 y5) (contangolaw11_Market.l0 (k + 1) y0 y1 y2 y3 y4 y5)) ∧ (∀ y0 y1 y2 y3 y4 y5 y6, LeO (contangolaw11_Market.l1 k y0 y1 y2 y3 y4 y5 y6) (contangolaw11_Market.l1 (k + 1) y0 y1 y2 y3 y4 y5 y6))
  | 0 => ⟨fun _ _ _ _ _ _ r h => by simp [contangolaw11_Market.l0] at h, fun _ _ _ _ _ _ _ r h => by simp [contangolaw11_Market.l1] at h⟩
  | k + 1 => by
    obtain ⟨ih0, ih1⟩ := contangolaw11_Market.mono_l k
    refine ⟨?_, ?_⟩
    · intro y0 y1 y2 y3 y4 y5
      unfold contangolaw11_Market.l0
      repeat' first
      | (with_reducible exact ih0 _ _ _ _ _ _)
      | (with_reducible exact ih1 _ _ _ _ _ _ _)
      | (with_reducible exact LeO.refl _)
      | (with_reducible exact LeO.none _)
      | (with_reducible refine LeO.ite ?_ ?_)
      | (with_reducible refine LeO.bind ?_ (fun _ => ?_))
      | exact ih0 _ _ _ _ _ _
      | exact ih1 _ _ _ _ _ _ _
      | exact LeO.none _
      | refine LeO.ite ?_ ?_
      | refine LeO.bind ?_ (fun _ => ?_)
    · intro y0 y1 y2 y3 y4 y5 y6
      unfold contangolaw11_Market.l1
      repeat' first
      | (with_reducible exact ih0 _ _ _ _ _ _)
      | (with_reducible exact ih1 _ _ _ _ _ _ _)
      | (with_reducible exact LeO.refl _)
      | (with_reducible exact LeO.none _)
      | (with_reducible refine LeO.ite ?_ ?_)
      | (with_reducible refine LeO.bind ?_ (fun _ => ?_))
      | exact ih0 _ _ _ _ _ _
      | exact ih1 _ _ _ _ _ _ _
      | exact LeO.none _
      | refine LeO.ite ?_ ?_
      | refine LeO.bind ?_ (fun _ => ?_)
theorem contangolaw11_Market.mono : ∀ a0 a1 a2 k, LeO (contangolaw11_Market.f k a0 a1 a2) (contangolaw11_Market.f (k + 1) a0 a1 a2) := by
  intro a0 a1 a2 k
  obtain ⟨ih0, ih1⟩ := contangolaw11_Market.mono_l k
  unfold contangolaw11_Market.f
  repeat' first
      | (with_reducible exact ih0 _ _ _ _ _ _)
      | (with_reducible exact ih1 _ _ _ _ _ _ _)
      | (with_reducible exact LeO.refl _)
      | (with_reducible exact LeO.none _)
      | (with_reducible refine LeO.ite ?_ ?_)
      | (with_reducible refine LeO.bind ?_ (fun _ => ?_))
      | exact ih0 _ _ _ _ _ _
      | exact ih1 _ _ _ _ _ _ _
      | exact LeO.none _
      | refine LeO.ite ?_ ?_
      | refine LeO.bind ?_ (fun _ => ?_)
set_option maxHeartbeats 8000000 in
set_option maxRecDepth 100000 in
theorem contangolaw11_Market.calls (k : Nat) (a0_0 : Int) (A0_1 : Option Addr) (c0_1 : Nat) (l0_1 : List (S88)) (A0_2 : Option Addr) (c0_2 : Nat) (l0_2 : List (S101)) (r1 : Int) (r2 : List (S73)) (r3 : List (S75)) (w : World) (hr0_1 : Kd.C k88 w A0_1 l0_1.length l0_1) (hc0_1 : l0_1.length ≤ c0_1) (hr0_2 : Kd.C k101 w A0_2 l0_2.length l0_2) (hc0_2 : l0_2.length ≤ c0_2) (h : contangolaw11_Market.f k a0_0 l0_1 l0_2 = some (r1, r2, r3)) :
    Calls Try.prog 21 #[.agg #[.int .i64 a0_0, .slice A0_1 l0_1.length c0_1, .slice A0_2 l0_2.length c0_2]] w fun e w' => ∃ v1_ v2_ : Value, e = .returned (.agg #[.int .i64 r1, v1_, v2_]) ∧ Kd.R k73 73 w' w.heap.size (fun _ => True) v1_ r2 ∧ Kd.R k75 75 w' w.heap.size (fun _ => True) v2_ r3 ∧ Below w.heap.size w w' := by
  have hu25 := Try.underlying25
  have hu35 := Try.underlying35
  have hu88 := Try.underlying88
  have hu46 := Try.underlying46
  have hu73 := Try.underlying73
  have hu101 := Try.underlying101
  have hu75 := Try.underlying75
  have HR0_1 := Aside0.mk hr0_1
  have HC0_1 := Aside0.mk hc0_1
  clear hr0_1 hc0_1
  have HR0_2 := Aside0.mk hr0_2
  have HC0_2 := Aside0.mk hc0_2
  clear hr0_2 hc0_2
  have HB := Aside0.mk (Below.refl w.heap.size w)
  have H : (contangolaw11_Market.l0 k 0 a0_0 l0_1 l0_2 a0_0 ([] : List (S73))) = some (r1, r2, r3) := h
  clear h
  have H' := Aside0.mk H
  clear H
  go_enter Try.func21, Try.ntmps21
  go_wp2_with (first | ((with_reducible refine gate_dst (N := 1) rfl ?_); refine box_event ?hg (N := 1) ?hd (cs := #[.int .i64 a0_0, .slice A0_1 l0_1.length c0_1, .slice A0_2 l0_2.length c0_2]) (t := 25) ?hr ?_; (case hd => rfl); (case hg => rfl); (case hr => exact hr_); intro gb117 hg w2 hbox hb; have n0_ := Aside0.mk (below_step bs_ hb); have n1_ := Aside0.mk (hbox); have n2_ := Aside0.mk (gs_ w hg); have n3_ := Aside0.mk (gs_ w hg); clear HB; have HB := n0_; have BK117 := n1_; have GW117 := n2_; have GE117 := n3_; clear n0_ n1_ n2_ n3_; clear hb hbox hg) | ((with_reducible refine gate_dst (N := 2) rfl ?_); refine box_event ?hg (N := 2) ?hd (cs := #[.int .i64 0, .slice none 0 0, .slice none 0 0]) (t := 35) ?hr ?_; (case hd => rfl); (case hg => rfl); (case hr => exact hr_); intro gb118 hg w3 hbox hb; have n0_ := Aside0.mk (blk_below BK117.out hb); have n1_ := Aside0.mk (below_step bs_ hb); have n2_ := Aside0.mk (hbox); have n3_ := Aside0.mk (gs_ w hg); have n4_ := Aside0.mk (gs_ w hg); have n5_ := Aside0.mk ((by rw [hg]; exact Nat.ne_of_lt (blk_lt BK117.out) : gb117 ≠ gb118)); have n6_ := Aside0.mk ((by rw [hg]; exact Nat.ne_of_gt (blk_lt BK117.out) : gb118 ≠ gb117)); clear BK117; clear HB; have BK117 := n0_; have HB := n1_; have BK118 := n2_; have GW118 := n3_; have GE118 := n4_; have NB117_118 := n5_; have NB118_117 := n6_; clear n0_ n1_ n2_ n3_ n4_ n5_ n6_; clear hb hbox hg; have hnb4 := NB117_118.out; have hnc4 := NB118_117.out; have hcz5_0 : w3.cell? ⟨gb117, 0, none⟩ = some (.int .i64 a0_0) := (blk_cell BK117.out 0).trans rfl; have hcz5_1 : w3.cell? ⟨gb117, 1, none⟩ = some (.slice A0_1 l0_1.length c0_1) := (blk_cell BK117.out 1).trans rfl; have hcz5_2 : w3.cell? ⟨gb117, 2, none⟩ = some (.slice A0_2 l0_2.length c0_2) := (blk_cell BK117.out 2).trans rfl; have hfz5_0 := blk_frozen BK117.out 0; have hfz5_1 := blk_frozen BK117.out 1; have hfz5_2 := blk_frozen BK117.out 2) | ((with_reducible refine gate_dst (N := 3) rfl ?_); refine box_event ?hg (N := 3) ?hd (cs := #[.int .i64 0, .slice none 0 0, .slice none 0 0]) (t := 35) ?hr ?_; (case hd => rfl); (case hg => rfl); (case hr => exact hr_); intro gb119 hg w6 hbox hb; have n0_ := Aside0.mk (blk_below BK117.out hb); have n1_ := Aside0.mk (blk_below BK118.out hb); have n2_ := Aside0.mk (below_step bs_ hb); have n3_ := Aside0.mk (hbox); have n4_ := Aside0.mk (gs_ w hg); have n5_ := Aside0.mk (gs_ w hg); have n6_ := Aside0.mk ((by rw [hg]; exact Nat.ne_of_lt (blk_lt BK117.out) : gb117 ≠ gb119)); have n7_ := Aside0.mk ((by rw [hg]; exact Nat.ne_of_gt (blk_lt BK117.out) : gb119 ≠ gb117)); have n8_ := Aside0.mk ((by rw [hg]; exact Nat.ne_of_lt (blk_lt BK118.out) : gb118 ≠ gb119)); have n9_ := Aside0.mk ((by rw [hg]; exact Nat.ne_of_gt (blk_lt BK118.out) : gb119 ≠ gb118)); clear BK117; clear BK118; clear HB; have BK117 := n0_; have BK118 := n1_; have HB := n2_; have BK119 := n3_; have GW119 := n4_; have GE119 := n5_; have NB117_119 := n6_; have NB119_117 := n7_; have NB118_119 := n8_; have NB119_118 := n9_; clear n0_ n1_ n2_ n3_ n4_ n5_ n6_ n7_ n8_ n9_; clear hb hbox hg; have hnb7 := NB119_117.out; have hnc7 := NB117_119.out; have hnb8 := NB119_118.out; have hnc8 := NB118_119.out; have hcz9_0 : w6.cell? ⟨gb119, 0, none⟩ = some (.int .i64 0) := (blk_cell BK119.out 0).trans rfl; have hcz9_1 : w6.cell? ⟨gb119, 1, none⟩ = some (.slice none 0 0) := (blk_cell BK119.out 1).trans rfl; have hcz9_2 : w6.cell? ⟨gb119, 2, none⟩ = some (.slice none 0 0) := (blk_cell BK119.out 2).trans rfl; have hfz9_0 := blk_frozen BK119.out 0; have hfz9_1 := blk_frozen BK119.out 1; have hfz9_2 := blk_frozen BK119.out 2))
  go_loopg [4] k (fun kq v4 w' => ∃ (x4_1 : Int) (x120001_1 : List (S73)) (u120001 : Value), v4 = .int .i64 x4_1 ∧ Aside0 (contangolaw11_Market.l0 kq x4_1 a0_0 l0_1 l0_2 a0_0 x120001_1 = some (r1, r2, r3)) ∧ Aside0 (kq ≤ k) ∧ Aside0 (Kd.R k73 73 w' w.heap.size (fun _ => True) u120001 x120001_1) ∧ Aside0 (w'.heap[gb117]? = some (.cells #[.int .i64 a0_0, (.slice A0_1 l0_1.length c0_1), (.slice A0_2 l0_2.length c0_2)] 25 (0, 0))) ∧ Aside0 (w'.heap[gb118]? = some (.cells #[.int .i64 0, (.slice none 0 0), (.slice none 0 0)] 35 (0, 0))) ∧ Aside0 (w'.heap[gb119]? = some (.cells #[.int .i64 a0_0, u120001, (.slice none 0 0)] 35 (0, 0))) ∧ Aside0 (Below w.heap.size w w'))
  case atStart => exact ⟨(0), (([] : List (S73))), (.slice none 0 0), fy_, H', ⟨Nat.le_refl _⟩, ⟨by first | exact Kd.R_nil _ _ _ _ _ | exact Kd.N_nil _ _ _ _ _ | exact Kd.V_nil _ _ _ _ _ | exact Kd.Q_nil _ _ _ _ _ | exact Kd.S_nil _ _ _ _ _⟩, ⟨by refine blk_far ?_ NB117_119.out _; refine blk_far ?_ NB117_119.out _; refine blk_far ?_ NB117_119.out _; exact BK117.out⟩, ⟨by refine blk_far ?_ NB118_119.out _; refine blk_far ?_ NB118_119.out _; refine blk_far ?_ NB118_119.out _; exact BK118.out⟩, ⟨by refine blk_put (cs := #[.int .i64 a0_0, .slice none 0 0, .slice none 0 0]) ?_ 2 _ rfl; refine blk_put (cs := #[.int .i64 a0_0, .slice none 0 0, .slice none 0 0]) ?_ 1 _ rfl; refine blk_put (cs := #[.int .i64 0, .slice none 0 0, .slice none 0 0]) ?_ 0 _ rfl; exact BK119.out⟩, ⟨bs_⟩⟩
  case round =>
    clear H'
    try clear c2
    try clear p2
    try clear c4
    try clear c7
    try clear c8
    try clear hcz5_0
    try clear hcz5_1
    try clear hcz5_2
    try clear hcz9_0
    try clear hcz9_1
    try clear hcz9_2
    try clear hfz5_0
    try clear hfz5_1
    try clear hfz5_2
    try clear hfz9_0
    try clear hfz9_1
    try clear hfz9_2
    obtain ⟨x4_1, x120001_1, u120001, rfl, HA, HK1, HO_120001, BK117, BK118, BK119, HB⟩ := hrel
    cases gk with
    | zero => exact absurd HA.out (by simp [contangolaw11_Market.l0])
    | succ k1 =>
      have H := HA.out
      clear HA
      simp only [contangolaw11_Market.l0] at H
      by_cases c10 : x4_1 < (l0_1.length : Int)
      · rw [if_pos c10] at H
        have c10b0 : decide (x4_1 < (l0_1.length : Int)) = true := decide_eq_true c10
        clear c10
        by_cases c11 : 0 ≤ x4_1
        · rw [if_pos c11] at H
          have c11b0 : decide (0 ≤ x4_1) = true := decide_eq_true c11
          clear c11
          by_cases c12 : x120001_1.length < 4398046511104
          · rw [if_pos c12] at H
            have LMc12 := Aside0.mk c12
            clear c12
            obtain ⟨y122, hy122⟩ : ∃ y_ : List (S73), y_ = (x120001_1 ++ [(⟨(⟨(rd_T88 l0_1 x4_1).f0.f0, (rd_T88 l0_1 x4_1).f0.f1⟩ : S46), (rd_T88 l0_1 x4_1).f1, (rd_T88 l0_1 x4_1).f2⟩ : S73)]) := ⟨_, rfl⟩
            replace H : (contangolaw11_Market.l0 k1 (wrap64 (x4_1 + 1)) a0_0 l0_1 l0_2 a0_0 y122) = some (r1, r2, r3) := by first | (rw [hy122]; with_reducible exact H) | (have H2_ := (Option.bind_some _ _).symm.trans H; rw [hy122]; with_reducible exact H2_) | (have H2_ := (Option.bind_some _ _).symm.trans H; with_reducible exact H2_) | with_reducible exact H | (rw [hy122]; exact H) | exact H
            have Ny122 := Aside0.mk hy122
            clear hy122
            have H' := Aside0.mk H
            clear H
            have hnb13 := NB117_118.out
            have hnc13 := NB118_117.out
            have hnb14 := NB117_119.out
            have hnc14 := NB119_117.out
            have hcz15_0 : wr.cell? ⟨gb117, 0, none⟩ = some (.int .i64 a0_0) := (blk_cell BK117.out 0).trans rfl
            have hcz15_1 : wr.cell? ⟨gb117, 1, none⟩ = some (.slice A0_1 l0_1.length c0_1) := (blk_cell BK117.out 1).trans rfl
            have hcz15_2 : wr.cell? ⟨gb117, 2, none⟩ = some (.slice A0_2 l0_2.length c0_2) := (blk_cell BK117.out 2).trans rfl
            have hfz15_0 := blk_frozen BK117.out 0
            have hfz15_1 := blk_frozen BK117.out 1
            have hfz15_2 := blk_frozen BK117.out 2
            have p120 : 0 ≤ (x4_1 : Int) := of_decide_eq_true as_
            have q120 : x4_1 < (l0_1.length : Int) := of_decide_eq_true as_
            obtain ⟨ad120, e120, hx120_0, hx120_1, hx120_2, hx120_3⟩ := at_T88 HR0_1.out x4_1 p120 q120
            cases e120
            replace hx120_0 := (HB.out.cell (World.block_lt_of_cell? w _ hx120_0)).trans hx120_0
            replace hx120_1 := (HB.out.cell (World.block_lt_of_cell? w _ hx120_1)).trans hx120_1
            replace hx120_2 := (HB.out.cell (World.block_lt_of_cell? w _ hx120_2)).trans hx120_2
            replace hx120_3 := (HB.out.cell (World.block_lt_of_cell? w _ hx120_3)).trans hx120_3
            replace p120 := eq_true p120
            replace q120 := eq_true q120
            go_wp2_with (first | ((with_reducible refine gate_dst (N := 5) rfl ?_); refine box_event ?hg (N := 5) ?hd (cs := #[.int .i64 0, .int .i64 0, .bool false, .int .i64 0]) (t := 88) ?hr ?_; (case hd => rfl); (case hg => rfl); (case hr => exact hr_); intro gb121 hg w16 hbox hb; have n0_ := Aside0.mk (Kd.R_below HO_120001.out hb); have n1_ := Aside0.mk (blk_below BK117.out hb); have n2_ := Aside0.mk (blk_below BK118.out hb); have n3_ := Aside0.mk (blk_below BK119.out hb); have n4_ := Aside0.mk (below_step bs_ hb); have n5_ := Aside0.mk (hbox); have n6_ := Aside0.mk (gs_ w hg); have n7_ := Aside0.mk (gs_ w hg); have n8_ := Aside0.mk ((by rw [hg]; exact Nat.ne_of_lt (blk_lt BK117.out) : gb117 ≠ gb121)); have n9_ := Aside0.mk ((by rw [hg]; exact Nat.ne_of_gt (blk_lt BK117.out) : gb121 ≠ gb117)); have n10_ := Aside0.mk ((by rw [hg]; exact Nat.ne_of_lt (blk_lt BK118.out) : gb118 ≠ gb121)); have n11_ := Aside0.mk ((by rw [hg]; exact Nat.ne_of_gt (blk_lt BK118.out) : gb121 ≠ gb118)); have n12_ := Aside0.mk ((by rw [hg]; exact Nat.ne_of_lt (blk_lt BK119.out) : gb119 ≠ gb121)); have n13_ := Aside0.mk ((by rw [hg]; exact Nat.ne_of_gt (blk_lt BK119.out) : gb121 ≠ gb119)); clear HO_120001; clear BK117; clear BK118; clear BK119; clear HB; have HO_120001 := n0_; have BK117 := n1_; have BK118 := n2_; have BK119 := n3_; have HB := n4_; have BK121 := n5_; have GW121 := n6_; have GE121 := n7_; have NB117_121 := n8_; have NB121_117 := n9_; have NB118_121 := n10_; have NB121_118 := n11_; have NB119_121 := n12_; have NB121_119 := n13_; clear n0_ n1_ n2_ n3_ n4_ n5_ n6_ n7_ n8_ n9_ n10_ n11_ n12_ n13_; clear hb hbox hg; have hnb17 := NB121_117.out; have hnc17 := NB117_121.out; have hnb18 := NB121_118.out; have hnc18 := NB118_121.out; have hnb19 := NB121_119.out; have hnc19 := NB119_121.out; have hcz20_0 : w16.cell? ⟨gb121, 0, none⟩ = some (.int .i64 0) := (blk_cell BK121.out 0).trans rfl; have hcz20_1 : w16.cell? ⟨gb121, 1, none⟩ = some (.int .i64 0) := (blk_cell BK121.out 1).trans rfl; have hcz20_2 : w16.cell? ⟨gb121, 2, none⟩ = some (.bool false) := (blk_cell BK121.out 2).trans rfl; have hcz20_3 : w16.cell? ⟨gb121, 3, none⟩ = some (.int .i64 0) := (blk_cell BK121.out 3).trans rfl; have hfz20_0 := blk_frozen BK121.out 0; have hfz20_1 := blk_frozen BK121.out 1; have hfz20_2 := blk_frozen BK121.out 2; have hfz20_3 := blk_frozen BK121.out 3; have hnb21 := NB119_118.out; have hnc21 := NB118_119.out; have hcz22_0 : w16.cell? ⟨gb119, 0, none⟩ = some (.int .i64 a0_0) := (blk_cell BK119.out 0).trans rfl; have hcz22_1 : w16.cell? ⟨gb119, 1, none⟩ = some (u120001) := (blk_cell BK119.out 1).trans rfl; have hcz22_2 : w16.cell? ⟨gb119, 2, none⟩ = some (.slice none 0 0) := (blk_cell BK119.out 2).trans rfl; have hfz22_0 := blk_frozen BK119.out 0; have hfz22_1 := blk_frozen BK119.out 1; have hfz22_2 := blk_frozen BK119.out 2) | ((with_reducible refine gate_builtin (b := .append) (xs := #[.tmp 24, .tmp 37]) rfl ?_); at_builtin; refine Kd.R_append k73 (w0 := w) w.heap.size rfl (.tmp 24) (.tmp 37) 32 73 (.agg #[(.int .i64 0), (.int .i64 0), (.bool false), (.int .i64 0)]) 32 rfl Try.underlying32 info73 rfl (by decide) (by omega) u120001 x120001_1 (⟨(⟨(rd_T88 l0_1 x4_1).f0.f0, (rd_T88 l0_1 x4_1).f0.f1⟩ : S46), (rd_T88 l0_1 x4_1).f1, (rd_T88 l0_1 x4_1).f2⟩ : S73) [.int .i64 ((rd_T88 l0_1 x4_1).f0.f0), .int .i64 ((rd_T88 l0_1 x4_1).f0.f1), .bool ((rd_T88 l0_1 x4_1).f1), .int .i64 ((rd_T88 l0_1 x4_1).f2)] (fun _ => True) (fun _ => False) rfl (by first | (go_simp; done) | (go_simp; rfl)) ?aP (fun _ hk => hk.elim) ?aF ?aO ?aB ?aS ?aL ?_; (case aP => exact k73_mkM _ _ _ (⟨(⟨(rd_T88 l0_1 x4_1).f0.f0, (rd_T88 l0_1 x4_1).f0.f1⟩ : S46), (rd_T88 l0_1 x4_1).f1, (rd_T88 l0_1 x4_1).f2⟩ : S73)); (case aB => exact bs_); (case aF => exact (fun _ _ => trivial)); (case aO => exact (by (with_reducible repeat (first | apply Kd.R_alloc | apply Kd.R_drewN | apply Kd.R_drew)); exact Kd.R_mono (Kd.R_far (p := ⟨gb121, 3, none⟩) (Kd.R_far (p := ⟨gb121, 2, none⟩) (Kd.R_far (p := ⟨gb121, 1, none⟩) (Kd.R_far (p := ⟨gb121, 0, none⟩) (Kd.R_types HO_120001.out BK121.out (by decide)) (fun _ hk => hk.2) (.int .i64 ((rd_T88 l0_1 x4_1).f0.f0))) (fun _ hk => hk.2) (.int .i64 ((rd_T88 l0_1 x4_1).f0.f1))) (fun _ hk => hk.2) (.bool ((rd_T88 l0_1 x4_1).f1))) (fun _ hk => hk.2) (.int .i64 ((rd_T88 l0_1 x4_1).f2))) (fun _ hk => trivial))); (case aS => exact (below_size bs_)); (case aL => have := LMc12.out; omega); intro v123 w23 ho hb hg hat; rw [← Ny122.out] at ho; have n0_ := Aside0.mk (blk_grown (g := gb117) (o := .cells #[.int .i64 a0_0, .slice (some ad120) l0_1.length c0_1, .slice A0_2 l0_2.length c0_2] 25 (0, 0)) (by refine blk_far ?_ NB117_121.out _; refine blk_far ?_ NB117_121.out _; refine blk_far ?_ NB117_121.out _; refine blk_far ?_ NB117_121.out _; exact BK117.out) hg (Kd.R_ne HO_120001.out BK117.out (by decide))); have n1_ := Aside0.mk (blk_grown (g := gb118) (o := .cells #[.int .i64 0, .slice none 0 0, .slice none 0 0] 35 (0, 0)) (by refine blk_far ?_ NB118_121.out _; refine blk_far ?_ NB118_121.out _; refine blk_far ?_ NB118_121.out _; refine blk_far ?_ NB118_121.out _; exact BK118.out) hg (Kd.R_ne HO_120001.out BK118.out (by decide))); have n2_ := Aside0.mk (blk_grown (g := gb119) (o := .cells #[.int .i64 a0_0, u120001, .slice none 0 0] 35 (0, 0)) (by refine blk_far ?_ NB119_121.out _; refine blk_far ?_ NB119_121.out _; refine blk_far ?_ NB119_121.out _; refine blk_far ?_ NB119_121.out _; exact BK119.out) hg (Kd.R_ne HO_120001.out BK119.out (by decide))); have n3_ := Aside0.mk (blk_grown (g := gb121) (o := .cells #[.int .i64 ((rd_T88 l0_1 x4_1).f0.f0), .int .i64 ((rd_T88 l0_1 x4_1).f0.f1), .bool ((rd_T88 l0_1 x4_1).f1), .int .i64 ((rd_T88 l0_1 x4_1).f2)] 88 (0, 0)) (by refine blk_put (cs := #[.int .i64 ((rd_T88 l0_1 x4_1).f0.f0), .int .i64 ((rd_T88 l0_1 x4_1).f0.f1), .bool ((rd_T88 l0_1 x4_1).f1), .int .i64 0]) ?_ 3 _ rfl; refine blk_put (cs := #[.int .i64 ((rd_T88 l0_1 x4_1).f0.f0), .int .i64 ((rd_T88 l0_1 x4_1).f0.f1), .bool false, .int .i64 0]) ?_ 2 _ rfl; refine blk_put (cs := #[.int .i64 ((rd_T88 l0_1 x4_1).f0.f0), .int .i64 0, .bool false, .int .i64 0]) ?_ 1 _ rfl; refine blk_put (cs := #[.int .i64 0, .int .i64 0, .bool false, .int .i64 0]) ?_ 0 _ rfl; exact BK121.out) hg (Kd.R_ne HO_120001.out BK121.out (by decide))); have n4_ := Aside0.mk (hb); have n5_ := Aside0.mk (ho); clear BK117; clear BK118; clear BK119; clear BK121; clear HB; clear HO_120001; have BK117 := n0_; have BK118 := n1_; have BK119 := n2_; have BK121 := n3_; have HB := n4_; have HO124 := n5_; clear n0_ n1_ n2_ n3_ n4_ n5_; clear ho hb hg hat; obtain ⟨Ao24, co24, eo24⟩ := Kd.R_slice HO124.out; subst eo24; have hcz25_0 : w23.cell? ⟨gb119, 0, none⟩ = some (.int .i64 a0_0) := (blk_cell BK119.out 0).trans rfl; have hcz25_1 : w23.cell? ⟨gb119, 1, none⟩ = some (u120001) := (blk_cell BK119.out 1).trans rfl; have hcz25_2 : w23.cell? ⟨gb119, 2, none⟩ = some (.slice none 0 0) := (blk_cell BK119.out 2).trans rfl; have hfz25_0 := blk_frozen BK119.out 0; have hfz25_1 := blk_frozen BK119.out 1; have hfz25_2 := blk_frozen BK119.out 2))
            go_roundg k1
            case measure => have := HK1.out; omega
            case rel => exact ⟨(wrap64 (x4_1 + 1)), (y122), (.slice Ao24 y122.length co24), fy_, H', ⟨by have := HK1.out; omega⟩, ⟨by (with_reducible repeat (first | apply Kd.R_alloc | apply Kd.R_drewN | apply Kd.R_drew)); exact Kd.R_mono (Kd.R_far (p := ⟨gb119, 1, none⟩) (Kd.R_types HO124.out BK119.out (by decide)) (fun _ hk => hk.2) (.slice Ao24 y122.length co24)) (fun _ hk => trivial)⟩, ⟨by refine blk_far ?_ NB117_119.out _; exact BK117.out⟩, ⟨by refine blk_far ?_ NB118_119.out _; exact BK118.out⟩, ⟨by refine blk_put (cs := #[.int .i64 a0_0, u120001, .slice none 0 0]) ?_ 1 _ rfl; exact BK119.out⟩, ⟨bs_⟩⟩
          · rw [if_neg c12] at H
            exact absurd H (by simp)
        · rw [if_neg c11] at H
          exact absurd H (by simp)
      · rw [if_neg c10] at H
        have c10b0 : decide (x4_1 < (l0_1.length : Int)) = false := decide_eq_false c10
        clear c10
        have H' := Aside0.mk H
        clear H
        have hnb26 := NB117_118.out
        have hnc26 := NB118_117.out
        have hnb27 := NB117_119.out
        have hnc27 := NB119_117.out
        have hcz28_0 : wr.cell? ⟨gb117, 0, none⟩ = some (.int .i64 a0_0) := (blk_cell BK117.out 0).trans rfl
        have hcz28_1 : wr.cell? ⟨gb117, 1, none⟩ = some (.slice A0_1 l0_1.length c0_1) := (blk_cell BK117.out 1).trans rfl
        have hcz28_2 : wr.cell? ⟨gb117, 2, none⟩ = some (.slice A0_2 l0_2.length c0_2) := (blk_cell BK117.out 2).trans rfl
        have hfz28_0 := blk_frozen BK117.out 0
        have hfz28_1 := blk_frozen BK117.out 1
        have hfz28_2 := blk_frozen BK117.out 2
        go_wp2
        go_loopg [6] k1 (fun kq v6 w' => ∃ (x6_2 : Int) (x120002_2 : List (S75)) (u120002 : Value), v6 = .int .i64 x6_2 ∧ Aside0 (contangolaw11_Market.l1 kq x6_2 a0_0 l0_1 l0_2 a0_0 x120001_1 x120002_2 = some (r1, r2, r3)) ∧ Aside0 (kq ≤ k1) ∧ Aside0 (Kd.R k73 73 w' w.heap.size (fun _ => True) u120001 x120001_1) ∧ Aside0 (Kd.R k75 75 w' w.heap.size (fun _ => True) u120002 x120002_2) ∧ Aside0 (w'.heap[gb117]? = some (.cells #[.int .i64 a0_0, (.slice A0_1 l0_1.length c0_1), (.slice A0_2 l0_2.length c0_2)] 25 (0, 0))) ∧ Aside0 (w'.heap[gb118]? = some (.cells #[.int .i64 0, (.slice none 0 0), (.slice none 0 0)] 35 (0, 0))) ∧ Aside0 (w'.heap[gb119]? = some (.cells #[.int .i64 a0_0, u120001, u120002] 35 (0, 0))) ∧ Aside0 (Below w.heap.size w w'))
        case atStart => exact ⟨(0), (([] : List (S75))), (.slice none 0 0), fy_, H', ⟨Nat.le_refl _⟩, ⟨by (with_reducible repeat (first | apply Kd.R_alloc | apply Kd.R_drewN | apply Kd.R_drew)); exact HO_120001.out⟩, ⟨by first | exact Kd.R_nil _ _ _ _ _ | exact Kd.N_nil _ _ _ _ _ | exact Kd.V_nil _ _ _ _ _ | exact Kd.Q_nil _ _ _ _ _ | exact Kd.S_nil _ _ _ _ _⟩, ⟨by exact BK117.out⟩, ⟨by exact BK118.out⟩, ⟨by exact BK119.out⟩, ⟨bs_⟩⟩
        case round =>
          clear H'
          try clear c1
          try clear p1
          try clear q1
          try clear hx1
          try clear c2
          try clear p2
          try clear c4
          try clear p6
          try clear c7
          try clear c8
          try clear c10
          try clear c10b0
          try clear c11
          try clear c11b0
          try clear c12
          try clear p12
          try clear q12
          try clear hx12
          try clear c13
          try clear c14
          try clear c17
          try clear c18
          try clear c19
          try clear c21
          try clear c26
          try clear c27
          try clear hcz15_0
          try clear hcz15_1
          try clear hcz15_2
          try clear hcz20_0
          try clear hcz20_1
          try clear hcz20_2
          try clear hcz20_3
          try clear hcz22_0
          try clear hcz22_1
          try clear hcz22_2
          try clear hcz25_0
          try clear hcz25_1
          try clear hcz25_2
          try clear hcz28_0
          try clear hcz28_1
          try clear hcz28_2
          try clear hcz5_0
          try clear hcz5_1
          try clear hcz5_2
          try clear hcz9_0
          try clear hcz9_1
          try clear hcz9_2
          try clear hfz15_0
          try clear hfz15_1
          try clear hfz15_2
          try clear hfz20_0
          try clear hfz20_1
          try clear hfz20_2
          try clear hfz20_3
          try clear hfz22_0
          try clear hfz22_1
          try clear hfz22_2
          try clear hfz25_0
          try clear hfz25_1
          try clear hfz25_2
          try clear hfz28_0
          try clear hfz28_1
          try clear hfz28_2
          try clear hfz5_0
          try clear hfz5_1
          try clear hfz5_2
          try clear hfz9_0
          try clear hfz9_1
          try clear hfz9_2
          try clear hx120_0
          try clear hx120_1
          try clear hx120_2
          try clear hx120_3
          try clear p120
          try clear p2
          try clear q120
          obtain ⟨x6_2, x120002_2, u120002, rfl, HA, HK2, HO_120001, HO_120002, BK117, BK118, BK119, HB⟩ := hrel
          cases gk with
          | zero => exact absurd HA.out (by simp [contangolaw11_Market.l1])
          | succ k2 =>
            have H := HA.out
            clear HA
            simp only [contangolaw11_Market.l1] at H
            by_cases c29 : x6_2 < (l0_2.length : Int)
            · rw [if_pos c29] at H
              have c29b0 : decide (x6_2 < (l0_2.length : Int)) = true := decide_eq_true c29
              clear c29
              by_cases c30 : 0 ≤ x6_2
              · rw [if_pos c30] at H
                have c30b0 : decide (0 ≤ x6_2) = true := decide_eq_true c30
                clear c30
                by_cases c31 : x120002_2.length < 5864062014805
                · rw [if_pos c31] at H
                  have LMc31 := Aside0.mk c31
                  clear c31
                  obtain ⟨y127, hy127⟩ : ∃ y_ : List (S75), y_ = (x120002_2 ++ [(⟨(rd_T101 l0_2 x6_2).f0, (rd_T101 l0_2 x6_2).f1, (rd_T101 l0_2 x6_2).f2⟩ : S75)]) := ⟨_, rfl⟩
                  replace H : (contangolaw11_Market.l1 k2 (wrap64 (x6_2 + 1)) a0_0 l0_1 l0_2 a0_0 x120001_1 y127) = some (r1, r2, r3) := by first | (rw [hy127]; with_reducible exact H) | (have H2_ := (Option.bind_some _ _).symm.trans H; rw [hy127]; with_reducible exact H2_) | (have H2_ := (Option.bind_some _ _).symm.trans H; with_reducible exact H2_) | with_reducible exact H | (rw [hy127]; exact H) | exact H
                  have Ny127 := Aside0.mk hy127
                  clear hy127
                  have H' := Aside0.mk H
                  clear H
                  have hnb32 := NB117_118.out
                  have hnc32 := NB118_117.out
                  have hnb33 := NB117_119.out
                  have hnc33 := NB119_117.out
                  have hcz34_0 : wr.cell? ⟨gb117, 0, none⟩ = some (.int .i64 a0_0) := (blk_cell BK117.out 0).trans rfl
                  have hcz34_1 : wr.cell? ⟨gb117, 1, none⟩ = some (.slice A0_1 l0_1.length c0_1) := (blk_cell BK117.out 1).trans rfl
                  have hcz34_2 : wr.cell? ⟨gb117, 2, none⟩ = some (.slice A0_2 l0_2.length c0_2) := (blk_cell BK117.out 2).trans rfl
                  have hfz34_0 := blk_frozen BK117.out 0
                  have hfz34_1 := blk_frozen BK117.out 1
                  have hfz34_2 := blk_frozen BK117.out 2
                  have p125 : 0 ≤ (x6_2 : Int) := of_decide_eq_true as_
                  have q125 : x6_2 < (l0_2.length : Int) := of_decide_eq_true as_
                  obtain ⟨ad125, e125, hx125_0, hx125_1, hx125_2⟩ := at_T101 HR0_2.out x6_2 p125 q125
                  cases e125
                  replace hx125_0 := (HB.out.cell (World.block_lt_of_cell? w _ hx125_0)).trans hx125_0
                  replace hx125_1 := (HB.out.cell (World.block_lt_of_cell? w _ hx125_1)).trans hx125_1
                  replace hx125_2 := (HB.out.cell (World.block_lt_of_cell? w _ hx125_2)).trans hx125_2
                  replace p125 := eq_true p125
                  replace q125 := eq_true q125
                  go_wp2_with (first | ((with_reducible refine gate_dst (N := 7) rfl ?_); refine box_event ?hg (N := 7) ?hd (cs := #[.int .i64 0, .int .i64 0, .int .i64 0]) (t := 101) ?hr ?_; (case hd => rfl); (case hg => rfl); (case hr => exact hr_); intro gb126 hg w35 hbox hb; have n0_ := Aside0.mk (Kd.R_below HO_120001.out hb); have n1_ := Aside0.mk (Kd.R_below HO_120002.out hb); have n2_ := Aside0.mk (blk_below BK117.out hb); have n3_ := Aside0.mk (blk_below BK118.out hb); have n4_ := Aside0.mk (blk_below BK119.out hb); have n5_ := Aside0.mk (below_step bs_ hb); have n6_ := Aside0.mk (hbox); have n7_ := Aside0.mk (gs_ w hg); have n8_ := Aside0.mk (gs_ w hg); have n9_ := Aside0.mk ((by rw [hg]; exact Nat.ne_of_lt (blk_lt BK117.out) : gb117 ≠ gb126)); have n10_ := Aside0.mk ((by rw [hg]; exact Nat.ne_of_gt (blk_lt BK117.out) : gb126 ≠ gb117)); have n11_ := Aside0.mk ((by rw [hg]; exact Nat.ne_of_lt (blk_lt BK118.out) : gb118 ≠ gb126)); have n12_ := Aside0.mk ((by rw [hg]; exact Nat.ne_of_gt (blk_lt BK118.out) : gb126 ≠ gb118)); have n13_ := Aside0.mk ((by rw [hg]; exact Nat.ne_of_lt (blk_lt BK119.out) : gb119 ≠ gb126)); have n14_ := Aside0.mk ((by rw [hg]; exact Nat.ne_of_gt (blk_lt BK119.out) : gb126 ≠ gb119)); clear HO_120001; clear HO_120002; clear BK117; clear BK118; clear BK119; clear HB; have HO_120001 := n0_; have HO_120002 := n1_; have BK117 := n2_; have BK118 := n3_; have BK119 := n4_; have HB := n5_; have BK126 := n6_; have GW126 := n7_; have GE126 := n8_; have NB117_126 := n9_; have NB126_117 := n10_; have NB118_126 := n11_; have NB126_118 := n12_; have NB119_126 := n13_; have NB126_119 := n14_; clear n0_ n1_ n2_ n3_ n4_ n5_ n6_ n7_ n8_ n9_ n10_ n11_ n12_ n13_ n14_; clear hb hbox hg; have hnb36 := NB126_117.out; have hnc36 := NB117_126.out; have hnb37 := NB126_118.out; have hnc37 := NB118_126.out; have hnb38 := NB126_119.out; have hnc38 := NB119_126.out; have hcz39_0 : w35.cell? ⟨gb126, 0, none⟩ = some (.int .i64 0) := (blk_cell BK126.out 0).trans rfl; have hcz39_1 : w35.cell? ⟨gb126, 1, none⟩ = some (.int .i64 0) := (blk_cell BK126.out 1).trans rfl; have hcz39_2 : w35.cell? ⟨gb126, 2, none⟩ = some (.int .i64 0) := (blk_cell BK126.out 2).trans rfl; have hfz39_0 := blk_frozen BK126.out 0; have hfz39_1 := blk_frozen BK126.out 1; have hfz39_2 := blk_frozen BK126.out 2; have hnb40 := NB119_118.out; have hnc40 := NB118_119.out; have hcz41_0 : w35.cell? ⟨gb119, 0, none⟩ = some (.int .i64 a0_0) := (blk_cell BK119.out 0).trans rfl; have hcz41_1 : w35.cell? ⟨gb119, 1, none⟩ = some (u120001) := (blk_cell BK119.out 1).trans rfl; have hcz41_2 : w35.cell? ⟨gb119, 2, none⟩ = some (u120002) := (blk_cell BK119.out 2).trans rfl; have hfz41_0 := blk_frozen BK119.out 0; have hfz41_1 := blk_frozen BK119.out 1; have hfz41_2 := blk_frozen BK119.out 2) | ((with_reducible refine gate_builtin (b := .append) (xs := #[.tmp 53, .tmp 61]) rfl ?_); at_builtin; refine Kd.R_append k75 (w0 := w) w.heap.size rfl (.tmp 53) (.tmp 61) 33 75 (.agg #[(.int .i64 0), (.int .i64 0), (.int .i64 0)]) 24 rfl Try.underlying33 info75 rfl (by decide) (by omega) u120002 x120002_2 (⟨(rd_T101 l0_2 x6_2).f0, (rd_T101 l0_2 x6_2).f1, (rd_T101 l0_2 x6_2).f2⟩ : S75) [.int .i64 ((rd_T101 l0_2 x6_2).f0), .int .i64 ((rd_T101 l0_2 x6_2).f1), .int .i64 ((rd_T101 l0_2 x6_2).f2)] (fun _ => True) (fun _ => False) rfl (by first | (go_simp; done) | (go_simp; rfl)) ?aP (fun _ hk => hk.elim) ?aF ?aO ?aB ?aS ?aL ?_; (case aP => exact k75_mkM _ _ _ (⟨(rd_T101 l0_2 x6_2).f0, (rd_T101 l0_2 x6_2).f1, (rd_T101 l0_2 x6_2).f2⟩ : S75)); (case aB => exact bs_); (case aF => exact (fun _ _ => trivial)); (case aO => exact (by (with_reducible repeat (first | apply Kd.R_alloc | apply Kd.R_drewN | apply Kd.R_drew)); exact Kd.R_mono (Kd.R_far (p := ⟨gb126, 2, none⟩) (Kd.R_far (p := ⟨gb126, 1, none⟩) (Kd.R_far (p := ⟨gb126, 0, none⟩) (Kd.R_types HO_120002.out BK126.out (by decide)) (fun _ hk => hk.2) (.int .i64 ((rd_T101 l0_2 x6_2).f0))) (fun _ hk => hk.2) (.int .i64 ((rd_T101 l0_2 x6_2).f1))) (fun _ hk => hk.2) (.int .i64 ((rd_T101 l0_2 x6_2).f2))) (fun _ hk => trivial))); (case aS => exact (below_size bs_)); (case aL => have := LMc31.out; omega); intro v128 w42 ho hb hg hat; rw [← Ny127.out] at ho; have n0_ := Aside0.mk (Kd.R_over' (by (with_reducible repeat (first | apply Kd.R_alloc | apply Kd.R_drewN | apply Kd.R_drew)); exact (Kd.R_mono (Kd.R_far (p := ⟨gb126, 2, none⟩) (Kd.R_far (p := ⟨gb126, 1, none⟩) (Kd.R_far (p := ⟨gb126, 0, none⟩) (Kd.R_types HO_120001.out BK126.out (by decide)) (fun _ hk => hk.2) (.int .i64 ((rd_T101 l0_2 x6_2).f0))) (fun _ hk => hk.2) (.int .i64 ((rd_T101 l0_2 x6_2).f1))) (fun _ hk => hk.2) (.int .i64 ((rd_T101 l0_2 x6_2).f2))) (fun _ h_ => h_.1))) (Kd.R_typed (by (with_reducible repeat (first | apply Kd.R_alloc | apply Kd.R_drewN | apply Kd.R_drew)); exact (Kd.R_mono (Kd.R_far (p := ⟨gb126, 2, none⟩) (Kd.R_far (p := ⟨gb126, 1, none⟩) (Kd.R_far (p := ⟨gb126, 0, none⟩) (Kd.R_types HO_120002.out BK126.out (by decide)) (fun _ hk => hk.2) (.int .i64 ((rd_T101 l0_2 x6_2).f0))) (fun _ hk => hk.2) (.int .i64 ((rd_T101 l0_2 x6_2).f1))) (fun _ hk => hk.2) (.int .i64 ((rd_T101 l0_2 x6_2).f2))) (fun _ h_ => h_.1)))) (by decide) hg); have n1_ := Aside0.mk (blk_grown (g := gb117) (o := .cells #[.int .i64 a0_0, .slice A0_1 l0_1.length c0_1, .slice (some ad125) l0_2.length c0_2] 25 (0, 0)) (by refine blk_far ?_ NB117_126.out _; refine blk_far ?_ NB117_126.out _; refine blk_far ?_ NB117_126.out _; exact BK117.out) hg (Kd.R_ne HO_120002.out BK117.out (by decide))); have n2_ := Aside0.mk (blk_grown (g := gb118) (o := .cells #[.int .i64 0, .slice none 0 0, .slice none 0 0] 35 (0, 0)) (by refine blk_far ?_ NB118_126.out _; refine blk_far ?_ NB118_126.out _; refine blk_far ?_ NB118_126.out _; exact BK118.out) hg (Kd.R_ne HO_120002.out BK118.out (by decide))); have n3_ := Aside0.mk (blk_grown (g := gb119) (o := .cells #[.int .i64 a0_0, u120001, u120002] 35 (0, 0)) (by refine blk_far ?_ NB119_126.out _; refine blk_far ?_ NB119_126.out _; refine blk_far ?_ NB119_126.out _; exact BK119.out) hg (Kd.R_ne HO_120002.out BK119.out (by decide))); have n4_ := Aside0.mk (blk_grown (g := gb126) (o := .cells #[.int .i64 ((rd_T101 l0_2 x6_2).f0), .int .i64 ((rd_T101 l0_2 x6_2).f1), .int .i64 ((rd_T101 l0_2 x6_2).f2)] 101 (0, 0)) (by refine blk_put (cs := #[.int .i64 ((rd_T101 l0_2 x6_2).f0), .int .i64 ((rd_T101 l0_2 x6_2).f1), .int .i64 0]) ?_ 2 _ rfl; refine blk_put (cs := #[.int .i64 ((rd_T101 l0_2 x6_2).f0), .int .i64 0, .int .i64 0]) ?_ 1 _ rfl; refine blk_put (cs := #[.int .i64 0, .int .i64 0, .int .i64 0]) ?_ 0 _ rfl; exact BK126.out) hg (Kd.R_ne HO_120002.out BK126.out (by decide))); have n5_ := Aside0.mk (hb); have n6_ := Aside0.mk (ho); clear HO_120001; clear BK117; clear BK118; clear BK119; clear BK126; clear HB; clear HO_120002; have HO_120001 := n0_; have BK117 := n1_; have BK118 := n2_; have BK119 := n3_; have BK126 := n4_; have HB := n5_; have HO129 := n6_; clear n0_ n1_ n2_ n3_ n4_ n5_ n6_; clear ho hb hg hat; obtain ⟨Ao43, co43, eo43⟩ := Kd.R_slice HO129.out; subst eo43; have hcz44_0 : w42.cell? ⟨gb119, 0, none⟩ = some (.int .i64 a0_0) := (blk_cell BK119.out 0).trans rfl; have hcz44_1 : w42.cell? ⟨gb119, 1, none⟩ = some (u120001) := (blk_cell BK119.out 1).trans rfl; have hcz44_2 : w42.cell? ⟨gb119, 2, none⟩ = some (u120002) := (blk_cell BK119.out 2).trans rfl; have hfz44_0 := blk_frozen BK119.out 0; have hfz44_1 := blk_frozen BK119.out 1; have hfz44_2 := blk_frozen BK119.out 2))
                  go_roundg k2
                  case measure => have := HK1.out; have := HK2.out; omega
                  case rel => exact ⟨(wrap64 (x6_2 + 1)), (y127), (.slice Ao43 y127.length co43), fy_, H', ⟨by have := HK1.out; have := HK2.out; omega⟩, ⟨by (with_reducible repeat (first | apply Kd.R_alloc | apply Kd.R_drewN | apply Kd.R_drew)); exact Kd.R_mono (Kd.R_far (p := ⟨gb119, 2, none⟩) (Kd.R_types HO_120001.out BK119.out (by decide)) (fun _ hk => hk.2) (.slice Ao43 y127.length co43)) (fun _ hk => trivial)⟩, ⟨by (with_reducible repeat (first | apply Kd.R_alloc | apply Kd.R_drewN | apply Kd.R_drew)); exact Kd.R_mono (Kd.R_far (p := ⟨gb119, 2, none⟩) (Kd.R_types HO129.out BK119.out (by decide)) (fun _ hk => hk.2) (.slice Ao43 y127.length co43)) (fun _ hk => trivial)⟩, ⟨by refine blk_far ?_ NB117_119.out _; exact BK117.out⟩, ⟨by refine blk_far ?_ NB118_119.out _; exact BK118.out⟩, ⟨by refine blk_put (cs := #[.int .i64 a0_0, u120001, u120002]) ?_ 2 _ rfl; exact BK119.out⟩, ⟨bs_⟩⟩
                · rw [if_neg c31] at H
                  exact absurd H (by simp)
              · rw [if_neg c30] at H
                exact absurd H (by simp)
            · rw [if_neg c29] at H
              have c29b0 : decide (x6_2 < (l0_2.length : Int)) = false := decide_eq_false c29
              clear c29
              simp only [Option.some.injEq, Prod.mk.injEq] at H
              obtain ⟨rfl, rfl, rfl⟩ := H
              have hnb45 := NB117_118.out
              have hnc45 := NB118_117.out
              have hnb46 := NB117_119.out
              have hnc46 := NB119_117.out
              have hcz47_0 : wr.cell? ⟨gb117, 0, none⟩ = some (.int .i64 a0_0) := (blk_cell BK117.out 0).trans rfl
              have hcz47_1 : wr.cell? ⟨gb117, 1, none⟩ = some (.slice A0_1 l0_1.length c0_1) := (blk_cell BK117.out 1).trans rfl
              have hcz47_2 : wr.cell? ⟨gb117, 2, none⟩ = some (.slice A0_2 l0_2.length c0_2) := (blk_cell BK117.out 2).trans rfl
              have hfz47_0 := blk_frozen BK117.out 0
              have hfz47_1 := blk_frozen BK117.out 1
              have hfz47_2 := blk_frozen BK117.out 2
              have hnb48 := NB119_118.out
              have hnc48 := NB118_119.out
              have hcz49_0 : wr.cell? ⟨gb119, 0, none⟩ = some (.int .i64 a0_0) := (blk_cell BK119.out 0).trans rfl
              have hcz49_1 : wr.cell? ⟨gb119, 1, none⟩ = some (u120001) := (blk_cell BK119.out 1).trans rfl
              have hcz49_2 : wr.cell? ⟨gb119, 2, none⟩ = some (u120002) := (blk_cell BK119.out 2).trans rfl
              have hfz49_0 := blk_frozen BK119.out 0
              have hfz49_1 := blk_frozen BK119.out 1
              have hfz49_2 := blk_frozen BK119.out 2
              have hcz50_0 : wr.cell? ⟨gb118, 0, none⟩ = some (.int .i64 0) := (blk_cell BK118.out 0).trans rfl
              have hcz50_1 : wr.cell? ⟨gb118, 1, none⟩ = some (.slice none 0 0) := (blk_cell BK118.out 1).trans rfl
              have hcz50_2 : wr.cell? ⟨gb118, 2, none⟩ = some (.slice none 0 0) := (blk_cell BK118.out 2).trans rfl
              have hfz50_0 := blk_frozen BK118.out 0
              have hfz50_1 := blk_frozen BK118.out 1
              have hfz50_2 := blk_frozen BK118.out 2
              obtain ⟨Ao51, co51, eo51⟩ := Kd.R_slice HO_120001.out
              subst eo51
              obtain ⟨Ao52, co52, eo52⟩ := Kd.R_slice HO_120002.out
              subst eo52
              go_wp2
              refine bodyPost_ret (results_cell_row rfl _ _ gb118 35 #[.int .i64 a0_0, .slice Ao51 x120001_1.length co51, .slice Ao52 x120002_2.length co52] (0, 0) _ rfl (by refine blk_put (cs := #[.int .i64 a0_0, .slice Ao51 x120001_1.length co51, .slice none 0 0]) ?_ 2 _ rfl; refine blk_put (cs := #[.int .i64 a0_0, .slice none 0 0, .slice none 0 0]) ?_ 1 _ rfl; refine blk_put (cs := #[.int .i64 0, .slice none 0 0, .slice none 0 0]) ?_ 0 _ rfl; exact BK118.out) Try.underlying35 rfl (by kernel_rfl)) rfl ?_
              exact ⟨_, _, by first | rfl | (simp [errW_none, errW_some] <;> rfl) | (simp [*, errW_none, errW_some] <;> rfl), by (with_reducible repeat (first | apply Kd.R_alloc | apply Kd.R_drewN | apply Kd.R_drew)); exact Kd.R_mono (Kd.R_far (p := ⟨gb118, 2, none⟩) (Kd.R_far (p := ⟨gb118, 1, none⟩) (Kd.R_far (p := ⟨gb118, 0, none⟩) (Kd.R_types HO_120001.out BK118.out (by decide)) (fun _ hk => hk.2) (.int .i64 a0_0)) (fun _ hk => hk.2) (.slice Ao51 x120001_1.length co51)) (fun _ hk => hk.2) (.slice Ao52 x120002_2.length co52)) (fun _ hk => trivial), by (with_reducible repeat (first | apply Kd.R_alloc | apply Kd.R_drewN | apply Kd.R_drew)); exact Kd.R_mono (Kd.R_far (p := ⟨gb118, 2, none⟩) (Kd.R_far (p := ⟨gb118, 1, none⟩) (Kd.R_far (p := ⟨gb118, 0, none⟩) (Kd.R_types HO_120002.out BK118.out (by decide)) (fun _ hk => hk.2) (.int .i64 a0_0)) (fun _ hk => hk.2) (.slice Ao51 x120001_1.length co51)) (fun _ hk => hk.2) (.slice Ao52 x120002_2.length co52)) (fun _ hk => trivial), bs_⟩
end Go.Proofs.Ytgjifkegfbpjkaa.Q
end
