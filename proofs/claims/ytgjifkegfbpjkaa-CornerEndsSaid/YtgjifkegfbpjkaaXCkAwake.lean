/- Walks: awake, the document's first examples. -/
import Derived.Test.YtgjifkegfbpjkaaXAwVal
import Derived.Test.YtgjifkegfbpjkaaXSmall
section
namespace Go.Proofs.Ytgjifkegfbpjkaa.Q
set_option linter.unusedVariables false
set_option linter.unusedSimpArgs false
open Go.RowKit Go.Maps Go.Proofs.YtgjifkegfbpjkaaW.PrintWords Go.Proofs.YtgjifkegfbpjkaaW.PrintLast Go.Proofs.YtgjifkegfbpjkaaW.PrintMore
theorem litC (w : World) (l : List Int) (h : l.length ≤ 1000) : Kd.C (Kd.int .i64) (w.alloc (.cells (nums .i64 l).toArray 3)) (some ⟨w.heap.size, 0, none⟩) l.length l := by
  have h' : (w.alloc (.cells (nums .i64 l).toArray 3)).ownsRow w.heap.size 3 1 (.slice (some ⟨w.heap.size, 0, none⟩) l.length l.length) l.length (nums .i64 l) := by
    refine ⟨by simp [nums], .inr ⟨w.heap.size, l.length, (nums .i64 l).toArray, rfl, Nat.le_refl _, heap_alloc_new w _, Nat.le_refl _, by unfold maxLen; omega, by simp [nums], by simp only [nums]; rw [List.take_of_length_le (by simp)]⟩⟩
  exact (Kd.R_reads' (R_nums h' (Nat.le_refl _))).2.2
def contangolaw11_awake.f : Option Bool := some true
set_option maxHeartbeats 4000000 in
set_option maxRecDepth 100000 in
theorem awake_walk (w : World) : Calls Try.prog 19 #[] w fun e w' => e = .returned (.bool true) ∧ Below w.heap.size w w' := by
  have HT0 : Aside0 (Below w.heap.size w w) := ⟨Below.refl _ _⟩
  have heq := fun w => eqA46 9998 w (-5) (-5) 15 15
  go_enter Try.func19, Try.ntmps19
  go_wp2_with fail
  refine (contangolaw11_four.calls 60 80 100 (fH 60 80) fC w rfl).mono ?_
  rintro e W1 ⟨v1, v2, rfl, hr1, hr2, hb⟩
  obtain ⟨A1, c1, rfl, hc1, hC1⟩ := Kd.R_reads hr1
  obtain ⟨D1, d1, rfl, hc2, hC2⟩ := Kd.R_reads hr2
  have HM1 := Aside0.mk hC1
  have HN1 := Aside0.mk hC2
  have HC1 := Aside0.mk hc1
  have HD1 := Aside0.mk hc2
  have HB1 : Aside0 (Below w.heap.size w W1) := ⟨hb⟩
  have HT1 := Aside0.mk (HT0.out.trans (HB1.out.mono HT0.out.size))
  clear hr1 hr2 hc1 hc2 hC1 hC2 hb
  go_wp2_with fail
  obtain ⟨W2, HW2⟩ : ∃ W, Aside0 (W1.alloc (.cells #[.int .i64 70, .int .i64 20, .int .i64 8, .int .i64 2] 3) = W) := ⟨_, ⟨rfl⟩⟩
  have HL2 : Aside0 (Kd.C (Kd.int .i64) W2 (some ⟨W1.heap.size, 0, none⟩) 4 [70, 20, 8, 2]) := ⟨by rw [← HW2.out]; exact litC _ [70, 20, 8, 2] (by decide)⟩
  have HB2 : Aside0 (Below W1.heap.size W1 W2) := ⟨by rw [← HW2.out]; exact (Below.refl _ _).alloc (Nat.le_refl _) _⟩
  have HT2 := Aside0.mk (HT1.out.trans (HB2.out.mono HT1.out.size))
  rw [HW2.out]
  refine (corner_Needs.calls 16 100 A1 c1 (fH 60 80) D1 d1 fC (some ⟨W1.heap.size, 0, none⟩) 4 [70, 20, 8, 2] [0, 0, 0, 23] [0, 10, 8, 0] 0 W2 (Kd.C_below HM1.out HB2.out) HC1.out (Kd.C_below HN1.out HB2.out) HD1.out HL2.out (by decide) needs_a).mono ?_
  rintro e W3 ⟨v1, v2, rfl, hr1, hr2, hb⟩
  have HB3 : Aside0 (Below W2.heap.size W2 W3) := ⟨hb⟩
  have HT3 := Aside0.mk (HT2.out.trans (HB3.out.mono HT2.out.size))
  obtain ⟨En, en, rfl, hc1, hC1⟩ := Kd.R_reads hr1
  have HEn := Aside0.mk hC1
  have HFn := Aside0.mk hc1
  clear hc1 hC1
  obtain ⟨Es, es, rfl, hc1, hC1⟩ := Kd.R_reads hr2
  have HEs := Aside0.mk hC1
  have HFs := Aside0.mk hc1
  clear hc1 hC1
  clear hr1 hr2 hb
  go_wp2_with fail
  refine (contangolaw11_four.calls 60 80 100 (fH 60 80) fC W3 rfl).mono ?_
  rintro e W4 ⟨v1, v2, rfl, hr1, hr2, hb⟩
  obtain ⟨A4, c4, rfl, hc1, hC1⟩ := Kd.R_reads hr1
  obtain ⟨D4, d4, rfl, hc2, hC2⟩ := Kd.R_reads hr2
  have HM4 := Aside0.mk hC1
  have HN4 := Aside0.mk hC2
  have HC4 := Aside0.mk hc1
  have HD4 := Aside0.mk hc2
  have HB4 : Aside0 (Below W3.heap.size W3 W4) := ⟨hb⟩
  have HT4 := Aside0.mk (HT3.out.trans (HB4.out.mono HT3.out.size))
  clear hr1 hr2 hc1 hc2 hC1 hC2 hb
  go_wp2_with fail
  refine (corner_Shortage.calls 100 A4 c4 (fH 60 80) D4 d4 fC (-5) 15 0 W4 HM4.out HC4.out HN4.out HD4.out short_a).mono ?_
  rintro e W5 ⟨rfl, hb⟩
  have HB5 : Aside0 (Below W4.heap.size W4 W5) := ⟨hb⟩
  have HT5 := Aside0.mk (HT4.out.trans (HB5.out.mono HT4.out.size))
  clear hb
  go_wp2_with fail
  obtain ⟨W6, HW6⟩ : ∃ W, Aside0 (W5.alloc (.cells #[.int .i64 (-5), .int .i64 15] 46) = W) := ⟨_, ⟨rfl⟩⟩
  have HR0 : Aside0 (W6.cell? ⟨W5.heap.size, 0, none⟩ = some (.int .i64 (-5))) := ⟨by rw [← HW6.out]; simp⟩
  have HR1 : Aside0 (W6.cell? ⟨W5.heap.size, 1, none⟩ = some (.int .i64 15)) := ⟨by rw [← HW6.out]; simp⟩
  have HB6 : Aside0 (Below W5.heap.size W5 W6) := ⟨by rw [← HW6.out]; exact (Below.refl _ _).alloc (Nat.le_refl _) _⟩
  have HT6 := Aside0.mk (HT5.out.trans (HB6.out.mono HT5.out.size))
  rw [HW6.out]
  refine (contangolaw11_four.calls 60 80 100 (fH 60 80) fC W6 rfl).mono ?_
  rintro e W7 ⟨v1, v2, rfl, hr1, hr2, hb⟩
  obtain ⟨A7, c7, rfl, hc1, hC1⟩ := Kd.R_reads hr1
  obtain ⟨D7, d7, rfl, hc2, hC2⟩ := Kd.R_reads hr2
  have HM7 := Aside0.mk hC1
  have HN7 := Aside0.mk hC2
  have HC7 := Aside0.mk hc1
  have HD7 := Aside0.mk hc2
  have HB7 : Aside0 (Below W6.heap.size W6 W7) := ⟨hb⟩
  have HT7 := Aside0.mk (HT6.out.trans (HB7.out.mono HT6.out.size))
  clear hr1 hr2 hc1 hc2 hC1 hC2 hb
  go_wp2_with fail
  refine (corner_Cornered.calls 100 A7 c7 (fH 60 80) D7 d7 fC false true 0 W7 HM7.out HC7.out HN7.out HD7.out cornered_a).mono ?_
  rintro e W8 ⟨rfl, hb⟩
  have HB8 : Aside0 (Below W7.heap.size W7 W8) := ⟨hb⟩
  have HT8 := Aside0.mk (HT7.out.trans (HB8.out.mono HT7.out.size))
  clear hb
  go_wp2_with fail
  refine (contangolaw11_four.calls 60 80 100 (fH 60 80) fC W8 rfl).mono ?_
  rintro e W9 ⟨v1, v2, rfl, hr1, hr2, hb⟩
  obtain ⟨A9, c9, rfl, hc1, hC1⟩ := Kd.R_reads hr1
  obtain ⟨D9, d9, rfl, hc2, hC2⟩ := Kd.R_reads hr2
  have HM9 := Aside0.mk hC1
  have HN9 := Aside0.mk hC2
  have HC9 := Aside0.mk hc1
  have HD9 := Aside0.mk hc2
  have HB9 : Aside0 (Below W8.heap.size W8 W9) := ⟨hb⟩
  have HT9 := Aside0.mk (HT8.out.trans (HB9.out.mono HT8.out.size))
  clear hr1 hr2 hc1 hc2 hC1 hC2 hb
  go_wp2_with fail
  refine (corner_Essential.calls 8 100 A9 c9 (fH 60 80) D9 d9 fC [1] [1, 2] 0 W9 HM9.out HC9.out HN9.out HD9.out ess_a).mono ?_
  rintro e W10 ⟨v1, v2, rfl, hr1, hr2, hb⟩
  have HB10 : Aside0 (Below W9.heap.size W9 W10) := ⟨hb⟩
  have HT10 := Aside0.mk (HT9.out.trans (HB10.out.mono HT9.out.size))
  obtain ⟨Ea, ea, rfl, hc1, hC1⟩ := Kd.R_reads hr1
  have HEa := Aside0.mk hC1
  have HFa := Aside0.mk hc1
  clear hc1 hC1
  obtain ⟨Eb, eb, rfl, hc1, hC1⟩ := Kd.R_reads hr2
  have HEb := Aside0.mk hC1
  have HFb := Aside0.mk hc1
  clear hc1 hC1
  clear hr1 hr2 hb
  go_wp2_with fail
  refine (contangolaw11_four.calls 60 80 100 (fH 60 80) fC W10 rfl).mono ?_
  rintro e W11 ⟨v1, v2, rfl, hr1, hr2, hb⟩
  obtain ⟨A11, c11, rfl, hc1, hC1⟩ := Kd.R_reads hr1
  obtain ⟨D11, d11, rfl, hc2, hC2⟩ := Kd.R_reads hr2
  have HM11 := Aside0.mk hC1
  have HN11 := Aside0.mk hC2
  have HC11 := Aside0.mk hc1
  have HD11 := Aside0.mk hc2
  have HB11 : Aside0 (Below W10.heap.size W10 W11) := ⟨hb⟩
  have HT11 := Aside0.mk (HT10.out.trans (HB11.out.mono HT10.out.size))
  clear hr1 hr2 hc1 hc2 hC1 hC2 hb
  go_wp2_with fail
  refine (corner_Corner.calls 100 A11 c11 (fH 60 80) D11 d11 fC [1] 0 W11 HM11.out HC11.out HN11.out HD11.out corner_a).mono ?_
  rintro e W12 ⟨v1, rfl, hr1, hb⟩
  have HB12 : Aside0 (Below W11.heap.size W11 W12) := ⟨hb⟩
  have HT12 := Aside0.mk (HT11.out.trans (HB12.out.mono HT11.out.size))
  obtain ⟨Ec, ec, rfl, hc1, hC1⟩ := Kd.R_reads hr1
  have HEc := Aside0.mk hC1
  have HFc := Aside0.mk hc1
  clear hc1 hC1
  clear hr1 hb
  go_wp2_with fail
  refine (contangolaw11_four.calls 60 80 100 (fH 60 80) fC W12 rfl).mono ?_
  rintro e W13 ⟨v1, v2, rfl, hr1, hr2, hb⟩
  obtain ⟨A13, c13, rfl, hc1, hC1⟩ := Kd.R_reads hr1
  obtain ⟨D13, d13, rfl, hc2, hC2⟩ := Kd.R_reads hr2
  have HM13 := Aside0.mk hC1
  have HN13 := Aside0.mk hC2
  have HC13 := Aside0.mk hc1
  have HD13 := Aside0.mk hc2
  have HB13 : Aside0 (Below W12.heap.size W12 W13) := ⟨hb⟩
  have HT13 := Aside0.mk (HT12.out.trans (HB13.out.mono HT12.out.size))
  clear hr1 hr2 hc1 hc2 hC1 hC2 hb
  go_wp2_with fail
  obtain ⟨W14, HW14⟩ : ∃ W, Aside0 (W13.alloc (.cells #[.int .i64 60, .int .i64 30, .int .i64 10, .int .i64 0] 3) = W) := ⟨_, ⟨rfl⟩⟩
  have HL14 : Aside0 (Kd.C (Kd.int .i64) W14 (some ⟨W13.heap.size, 0, none⟩) 4 [60, 30, 10, 0]) := ⟨by rw [← HW14.out]; exact litC _ [60, 30, 10, 0] (by decide)⟩
  have HB14 : Aside0 (Below W13.heap.size W13 W14) := ⟨by rw [← HW14.out]; exact (Below.refl _ _).alloc (Nat.le_refl _) _⟩
  have HT14 := Aside0.mk (HT13.out.trans (HB14.out.mono HT13.out.size))
  rw [HW14.out]
  refine (corner_Settle.calls 100 A13 c13 (fH 60 80) D13 d13 fC (some ⟨W13.heap.size, 0, none⟩) 4 [60, 30, 10, 0] [⟨2, 3, 10⟩, ⟨1, 3, 15⟩] 4500 0 W14 (Kd.C_below HM13.out HB14.out) HC13.out (Kd.C_below HN13.out HB14.out) HD13.out HL14.out (by decide) settle_a).mono ?_
  rintro e W15 ⟨v1, rfl, hr1, hb⟩
  have HB15 : Aside0 (Below W14.heap.size W14 W15) := ⟨hb⟩
  have HT15 := Aside0.mk (HT14.out.trans (HB15.out.mono HT14.out.size))
  obtain ⟨El, el, rfl, hc1, hC1⟩ := Kd.R_reads hr1
  have HEl := Aside0.mk hC1
  have HFl := Aside0.mk hc1
  clear hc1 hC1
  clear hr1 hb
  go_wp2_with fail
  refine (contangolaw11_four.calls 40 41 100 (fH 40 41) fC W15 rfl).mono ?_
  rintro e W16 ⟨v1, v2, rfl, hr1, hr2, hb⟩
  obtain ⟨A16, c16, rfl, hc1, hC1⟩ := Kd.R_reads hr1
  obtain ⟨D16, d16, rfl, hc2, hC2⟩ := Kd.R_reads hr2
  have HM16 := Aside0.mk hC1
  have HN16 := Aside0.mk hC2
  have HC16 := Aside0.mk hc1
  have HD16 := Aside0.mk hc2
  have HB16 : Aside0 (Below W15.heap.size W15 W16) := ⟨hb⟩
  have HT16 := Aside0.mk (HT15.out.trans (HB16.out.mono HT15.out.size))
  clear hr1 hr2 hc1 hc2 hC1 hC2 hb
  go_wp2_with fail
  refine (corner_Leave.calls 100 A16 c16 (fH 40 41) D16 d16 fC [0] 0 W16 HM16.out HC16.out HN16.out HD16.out leave_a).mono ?_
  rintro e W17 ⟨v1, rfl, hr1, hb⟩
  have HB17 : Aside0 (Below W16.heap.size W16 W17) := ⟨hb⟩
  have HT17 := Aside0.mk (HT16.out.trans (HB17.out.mono HT16.out.size))
  obtain ⟨Eo, eo, rfl, hc1, hC1⟩ := Kd.R_reads hr1
  have HEo := Aside0.mk hC1
  have HFo := Aside0.mk hc1
  clear hc1 hC1
  clear hr1 hb
  go_wp2_with fail
  refine (contangolaw11_four.calls 60 80 100 (fH 60 80) fC W17 rfl).mono ?_
  rintro e W18 ⟨v1, v2, rfl, hr1, hr2, hb⟩
  obtain ⟨A18, c18, rfl, hc1, hC1⟩ := Kd.R_reads hr1
  obtain ⟨D18, d18, rfl, hc2, hC2⟩ := Kd.R_reads hr2
  have HM18 := Aside0.mk hC1
  have HN18 := Aside0.mk hC2
  have HC18 := Aside0.mk hc1
  have HD18 := Aside0.mk hc2
  have HB18 : Aside0 (Below W17.heap.size W17 W18) := ⟨hb⟩
  have HT18 := Aside0.mk (HT17.out.trans (HB18.out.mono HT17.out.size))
  clear hr1 hr2 hc1 hc2 hC1 hC2 hb
  go_wp2_with fail
  refine (corner_Show.calls 100 A18 c18 (fH 60 80) D18 d18 fC true [80, 10, 5, 5] 0 W18 HM18.out HC18.out HN18.out HD18.out show_a).mono ?_
  rintro e W19 ⟨v1, rfl, hr1, hb⟩
  have HB19 : Aside0 (Below W18.heap.size W18 W19) := ⟨hb⟩
  have HT19 := Aside0.mk (HT18.out.trans (HB19.out.mono HT18.out.size))
  have hon := Kd.own_of_R hr1
  obtain ⟨gt, ct, rfl⟩ := own_some hon (by decide)
  have HT80 : Aside0 (W19.cell? ⟨gt, 0, none⟩ = some (.int .i64 80)) := ⟨by rw [hon.cellAt 0 (by decide)]; rfl⟩
  have hre := Kd.R_reads' hr1
  have HEt := Aside0.mk hre.2.2
  have HCt := Aside0.mk hre.2.1
  clear hr1 hb hon hre
  go_wp2_with fail
  obtain ⟨W20, HW20⟩ : ∃ W, Aside0 (W19.alloc (.cells #[.int .i64 0, .int .i64 0, .int .i64 0, .int .i64 23] 3) = W) := ⟨_, ⟨rfl⟩⟩
  have HL20 : Aside0 (Kd.C (Kd.int .i64) W20 (some ⟨W19.heap.size, 0, none⟩) 4 [0, 0, 0, 23]) := ⟨by rw [← HW20.out]; exact litC _ [0, 0, 0, 23] (by decide)⟩
  have HB20 : Aside0 (Below W19.heap.size W19 W20) := ⟨by rw [← HW20.out]; exact (Below.refl _ _).alloc (Nat.le_refl _) _⟩
  have HT20 := Aside0.mk (HT19.out.trans (HB20.out.mono HT19.out.size))
  rw [HW20.out]
  refine (contangoref11_Same.calls 40 En en [0, 0, 0, 23] (some ⟨W19.heap.size, 0, none⟩) 4 [0, 0, 0, 23] true W20 (Kd.C_below (Kd.C_below (Kd.C_below (Kd.C_below (Kd.C_below (Kd.C_below (Kd.C_below (Kd.C_below (Kd.C_below (Kd.C_below (Kd.C_below (Kd.C_below (Kd.C_below (Kd.C_below (Kd.C_below (Kd.C_below (Kd.C_below HEn.out HB4.out) HB5.out) HB6.out) HB7.out) HB8.out) HB9.out) HB10.out) HB11.out) HB12.out) HB13.out) HB14.out) HB15.out) HB16.out) HB17.out) HB18.out) HB19.out) HB20.out) HFn.out HL20.out (by decide) (by kernel_rfl)).mono ?_
  rintro e W21 ⟨rfl, hd⟩
  have HB21 : Aside0 (Below W20.heap.size W20 W21) := ⟨hd.below⟩
  have HT21 := Aside0.mk (HT20.out.trans (HB21.out.mono HT20.out.size))
  clear hd
  go_wp2_with fail
  obtain ⟨W22, HW22⟩ : ∃ W, Aside0 (W21.alloc (.cells #[.int .i64 0, .int .i64 10, .int .i64 8, .int .i64 0] 3) = W) := ⟨_, ⟨rfl⟩⟩
  have HL22 : Aside0 (Kd.C (Kd.int .i64) W22 (some ⟨W21.heap.size, 0, none⟩) 4 [0, 10, 8, 0]) := ⟨by rw [← HW22.out]; exact litC _ [0, 10, 8, 0] (by decide)⟩
  have HB22 : Aside0 (Below W21.heap.size W21 W22) := ⟨by rw [← HW22.out]; exact (Below.refl _ _).alloc (Nat.le_refl _) _⟩
  have HT22 := Aside0.mk (HT21.out.trans (HB22.out.mono HT21.out.size))
  rw [HW22.out]
  refine (contangoref11_Same.calls 40 Es es [0, 10, 8, 0] (some ⟨W21.heap.size, 0, none⟩) 4 [0, 10, 8, 0] true W22 (Kd.C_below (Kd.C_below (Kd.C_below (Kd.C_below (Kd.C_below (Kd.C_below (Kd.C_below (Kd.C_below (Kd.C_below (Kd.C_below (Kd.C_below (Kd.C_below (Kd.C_below (Kd.C_below (Kd.C_below (Kd.C_below (Kd.C_below (Kd.C_below (Kd.C_below HEs.out HB4.out) HB5.out) HB6.out) HB7.out) HB8.out) HB9.out) HB10.out) HB11.out) HB12.out) HB13.out) HB14.out) HB15.out) HB16.out) HB17.out) HB18.out) HB19.out) HB20.out) HB21.out) HB22.out) HFs.out HL22.out (by decide) (by kernel_rfl)).mono ?_
  rintro e W23 ⟨rfl, hd⟩
  have HB23 : Aside0 (Below W22.heap.size W22 W23) := ⟨hd.below⟩
  have HT23 := Aside0.mk (HT22.out.trans (HB23.out.mono HT22.out.size))
  clear hd
  have rc0 := (pw_cell_below HB23.out (pw_cell_below HB22.out (pw_cell_below HB21.out (pw_cell_below HB20.out (pw_cell_below HB19.out (pw_cell_below HB18.out (pw_cell_below HB17.out (pw_cell_below HB16.out (pw_cell_below HB15.out (pw_cell_below HB14.out (pw_cell_below HB13.out (pw_cell_below HB12.out (pw_cell_below HB11.out (pw_cell_below HB10.out (pw_cell_below HB9.out (pw_cell_below HB8.out (pw_cell_below HB7.out HR0.out)))))))))))))))))
  have rc1 := (pw_cell_below HB23.out (pw_cell_below HB22.out (pw_cell_below HB21.out (pw_cell_below HB20.out (pw_cell_below HB19.out (pw_cell_below HB18.out (pw_cell_below HB17.out (pw_cell_below HB16.out (pw_cell_below HB15.out (pw_cell_below HB14.out (pw_cell_below HB13.out (pw_cell_below HB12.out (pw_cell_below HB11.out (pw_cell_below HB10.out (pw_cell_below HB9.out (pw_cell_below HB8.out (pw_cell_below HB7.out HR1.out)))))))))))))))))
  go_wp2_with fail
  clear rc0
  clear rc1
  obtain ⟨W24, HW24⟩ : ∃ W, Aside0 (W23.alloc (.cells #[.int .i64 1] 3) = W) := ⟨_, ⟨rfl⟩⟩
  have HL24 : Aside0 (Kd.C (Kd.int .i64) W24 (some ⟨W23.heap.size, 0, none⟩) 1 [1]) := ⟨by rw [← HW24.out]; exact litC _ [1] (by decide)⟩
  have HB24 : Aside0 (Below W23.heap.size W23 W24) := ⟨by rw [← HW24.out]; exact (Below.refl _ _).alloc (Nat.le_refl _) _⟩
  have HT24 := Aside0.mk (HT23.out.trans (HB24.out.mono HT23.out.size))
  rw [HW24.out]
  refine (contangoref11_Same.calls 40 Ea ea [1] (some ⟨W23.heap.size, 0, none⟩) 1 [1] true W24 (Kd.C_below (Kd.C_below (Kd.C_below (Kd.C_below (Kd.C_below (Kd.C_below (Kd.C_below (Kd.C_below (Kd.C_below (Kd.C_below (Kd.C_below (Kd.C_below (Kd.C_below (Kd.C_below HEa.out HB11.out) HB12.out) HB13.out) HB14.out) HB15.out) HB16.out) HB17.out) HB18.out) HB19.out) HB20.out) HB21.out) HB22.out) HB23.out) HB24.out) HFa.out HL24.out (by decide) (by kernel_rfl)).mono ?_
  rintro e W25 ⟨rfl, hd⟩
  have HB25 : Aside0 (Below W24.heap.size W24 W25) := ⟨hd.below⟩
  have HT25 := Aside0.mk (HT24.out.trans (HB25.out.mono HT24.out.size))
  clear hd
  go_wp2_with fail
  obtain ⟨W26, HW26⟩ : ∃ W, Aside0 (W25.alloc (.cells #[.int .i64 1, .int .i64 2] 3) = W) := ⟨_, ⟨rfl⟩⟩
  have HL26 : Aside0 (Kd.C (Kd.int .i64) W26 (some ⟨W25.heap.size, 0, none⟩) 2 [1, 2]) := ⟨by rw [← HW26.out]; exact litC _ [1, 2] (by decide)⟩
  have HB26 : Aside0 (Below W25.heap.size W25 W26) := ⟨by rw [← HW26.out]; exact (Below.refl _ _).alloc (Nat.le_refl _) _⟩
  have HT26 := Aside0.mk (HT25.out.trans (HB26.out.mono HT25.out.size))
  rw [HW26.out]
  refine (contangoref11_Same.calls 40 Eb eb [1, 2] (some ⟨W25.heap.size, 0, none⟩) 2 [1, 2] true W26 (Kd.C_below (Kd.C_below (Kd.C_below (Kd.C_below (Kd.C_below (Kd.C_below (Kd.C_below (Kd.C_below (Kd.C_below (Kd.C_below (Kd.C_below (Kd.C_below (Kd.C_below (Kd.C_below (Kd.C_below (Kd.C_below HEb.out HB11.out) HB12.out) HB13.out) HB14.out) HB15.out) HB16.out) HB17.out) HB18.out) HB19.out) HB20.out) HB21.out) HB22.out) HB23.out) HB24.out) HB25.out) HB26.out) HFb.out HL26.out (by decide) (by kernel_rfl)).mono ?_
  rintro e W27 ⟨rfl, hd⟩
  have HB27 : Aside0 (Below W26.heap.size W26 W27) := ⟨hd.below⟩
  have HT27 := Aside0.mk (HT26.out.trans (HB27.out.mono HT26.out.size))
  clear hd
  go_wp2_with fail
  obtain ⟨W28, HW28⟩ : ∃ W, Aside0 (W27.alloc (.cells #[.int .i64 1] 3) = W) := ⟨_, ⟨rfl⟩⟩
  have HL28 : Aside0 (Kd.C (Kd.int .i64) W28 (some ⟨W27.heap.size, 0, none⟩) 1 [1]) := ⟨by rw [← HW28.out]; exact litC _ [1] (by decide)⟩
  have HB28 : Aside0 (Below W27.heap.size W27 W28) := ⟨by rw [← HW28.out]; exact (Below.refl _ _).alloc (Nat.le_refl _) _⟩
  have HT28 := Aside0.mk (HT27.out.trans (HB28.out.mono HT27.out.size))
  rw [HW28.out]
  refine (contangoref11_Same.calls 40 Ec ec [1] (some ⟨W27.heap.size, 0, none⟩) 1 [1] true W28 (Kd.C_below (Kd.C_below (Kd.C_below (Kd.C_below (Kd.C_below (Kd.C_below (Kd.C_below (Kd.C_below (Kd.C_below (Kd.C_below (Kd.C_below (Kd.C_below (Kd.C_below (Kd.C_below (Kd.C_below (Kd.C_below HEc.out HB13.out) HB14.out) HB15.out) HB16.out) HB17.out) HB18.out) HB19.out) HB20.out) HB21.out) HB22.out) HB23.out) HB24.out) HB25.out) HB26.out) HB27.out) HB28.out) HFc.out HL28.out (by decide) (by kernel_rfl)).mono ?_
  rintro e W29 ⟨rfl, hd⟩
  have HB29 : Aside0 (Below W28.heap.size W28 W29) := ⟨hd.below⟩
  have HT29 := Aside0.mk (HT28.out.trans (HB29.out.mono HT28.out.size))
  clear hd
  go_wp2_with fail
  refine (contangolaw11_four.calls 60 80 100 (fH 60 80) fC W29 rfl).mono ?_
  rintro e W30 ⟨v1, v2, rfl, hr1, hr2, hb⟩
  obtain ⟨A30, c30, rfl, hc1, hC1⟩ := Kd.R_reads hr1
  obtain ⟨D30, d30, rfl, hc2, hC2⟩ := Kd.R_reads hr2
  have HM30 := Aside0.mk hC1
  have HN30 := Aside0.mk hC2
  have HC30 := Aside0.mk hc1
  have HD30 := Aside0.mk hc2
  have HB30 : Aside0 (Below W29.heap.size W29 W30) := ⟨hb⟩
  have HT30 := Aside0.mk (HT29.out.trans (HB30.out.mono HT29.out.size))
  clear hr1 hr2 hc1 hc2 hC1 hC2 hb
  go_wp2_with fail
  obtain ⟨W31, HW31⟩ : ∃ W, Aside0 (W30.alloc (.cells #[.int .i64 60, .int .i64 30, .int .i64 10, .int .i64 0] 3) = W) := ⟨_, ⟨rfl⟩⟩
  have HL31 : Aside0 (Kd.C (Kd.int .i64) W31 (some ⟨W30.heap.size, 0, none⟩) 4 [60, 30, 10, 0]) := ⟨by rw [← HW31.out]; exact litC _ [60, 30, 10, 0] (by decide)⟩
  have HB31 : Aside0 (Below W30.heap.size W30 W31) := ⟨by rw [← HW31.out]; exact (Below.refl _ _).alloc (Nat.le_refl _) _⟩
  have HT31 := Aside0.mk (HT30.out.trans (HB31.out.mono HT30.out.size))
  rw [HW31.out]
  refine (corner_ProveSettled.calls 100 A30 c30 (fH 60 80) D30 d30 fC (some ⟨W30.heap.size, 0, none⟩) 4 [60, 30, 10, 0] El el [⟨2, 3, 10⟩, ⟨1, 3, 15⟩] 4500 true W31 (Kd.C_below HM30.out HB31.out) HC30.out (Kd.C_below HN30.out HB31.out) HD30.out HL31.out (by decide) (Kd.C_below (Kd.C_below (Kd.C_below (Kd.C_below (Kd.C_below (Kd.C_below (Kd.C_below (Kd.C_below (Kd.C_below (Kd.C_below (Kd.C_below (Kd.C_below (Kd.C_below (Kd.C_below (Kd.C_below (Kd.C_below HEl.out HB16.out) HB17.out) HB18.out) HB19.out) HB20.out) HB21.out) HB22.out) HB23.out) HB24.out) HB25.out) HB26.out) HB27.out) HB28.out) HB29.out) HB30.out) HB31.out) HFl.out prove_a).mono ?_
  rintro e W32 ⟨rfl, hb⟩
  have HB32 : Aside0 (Below W31.heap.size W31 W32) := ⟨hb⟩
  have HT32 := Aside0.mk (HT31.out.trans (HB32.out.mono HT31.out.size))
  clear hb
  go_wp2_with fail
  obtain ⟨W33, HW33⟩ : ∃ W, Aside0 (W32.alloc (.cells #[.int .i64 0] 3) = W) := ⟨_, ⟨rfl⟩⟩
  have HL33 : Aside0 (Kd.C (Kd.int .i64) W33 (some ⟨W32.heap.size, 0, none⟩) 1 [0]) := ⟨by rw [← HW33.out]; exact litC _ [0] (by decide)⟩
  have HB33 : Aside0 (Below W32.heap.size W32 W33) := ⟨by rw [← HW33.out]; exact (Below.refl _ _).alloc (Nat.le_refl _) _⟩
  have HT33 := Aside0.mk (HT32.out.trans (HB33.out.mono HT32.out.size))
  rw [HW33.out]
  refine (contangoref11_Same.calls 40 Eo eo [0] (some ⟨W32.heap.size, 0, none⟩) 1 [0] true W33 (Kd.C_below (Kd.C_below (Kd.C_below (Kd.C_below (Kd.C_below (Kd.C_below (Kd.C_below (Kd.C_below (Kd.C_below (Kd.C_below (Kd.C_below (Kd.C_below (Kd.C_below (Kd.C_below (Kd.C_below (Kd.C_below HEo.out HB18.out) HB19.out) HB20.out) HB21.out) HB22.out) HB23.out) HB24.out) HB25.out) HB26.out) HB27.out) HB28.out) HB29.out) HB30.out) HB31.out) HB32.out) HB33.out) HFo.out HL33.out (by decide) (by kernel_rfl)).mono ?_
  rintro e W34 ⟨rfl, hd⟩
  have HB34 : Aside0 (Below W33.heap.size W33 W34) := ⟨hd.below⟩
  have HT34 := Aside0.mk (HT33.out.trans (HB34.out.mono HT33.out.size))
  clear hd
  go_wp2_with fail
  refine (contangolaw11_four.calls 60 80 100 (fH 60 80) fC W34 rfl).mono ?_
  rintro e W35 ⟨v1, v2, rfl, hr1, hr2, hb⟩
  obtain ⟨A35, c35, rfl, hc1, hC1⟩ := Kd.R_reads hr1
  obtain ⟨D35, d35, rfl, hc2, hC2⟩ := Kd.R_reads hr2
  have HM35 := Aside0.mk hC1
  have HN35 := Aside0.mk hC2
  have HC35 := Aside0.mk hc1
  have HD35 := Aside0.mk hc2
  have HB35 : Aside0 (Below W34.heap.size W34 W35) := ⟨hb⟩
  have HT35 := Aside0.mk (HT34.out.trans (HB35.out.mono HT34.out.size))
  clear hr1 hr2 hc1 hc2 hC1 hC2 hb
  go_wp2_with fail
  refine (corner_ProveTruth.calls 8 100 A35 c35 (fH 60 80) D35 d35 fC (some ⟨gt, 0, none⟩) ct [80, 10, 5, 5] true W35 HM35.out HC35.out HN35.out HD35.out (Kd.C_below (Kd.C_below (Kd.C_below (Kd.C_below (Kd.C_below (Kd.C_below (Kd.C_below (Kd.C_below (Kd.C_below (Kd.C_below (Kd.C_below (Kd.C_below (Kd.C_below (Kd.C_below (Kd.C_below (Kd.C_below HEt.out HB20.out) HB21.out) HB22.out) HB23.out) HB24.out) HB25.out) HB26.out) HB27.out) HB28.out) HB29.out) HB30.out) HB31.out) HB32.out) HB33.out) HB34.out) HB35.out) HCt.out ptruth_a).mono ?_
  rintro e W36 ⟨rfl, hb⟩
  have HB36 : Aside0 (Below W35.heap.size W35 W36) := ⟨hb⟩
  have HT36 := Aside0.mk (HT35.out.trans (HB36.out.mono HT35.out.size))
  clear hb
  have t80 := (pw_cell_below HB36.out (pw_cell_below HB35.out (pw_cell_below HB34.out (pw_cell_below HB33.out (pw_cell_below HB32.out (pw_cell_below HB31.out (pw_cell_below HB30.out (pw_cell_below HB29.out (pw_cell_below HB28.out (pw_cell_below HB27.out (pw_cell_below HB26.out (pw_cell_below HB25.out (pw_cell_below HB24.out (pw_cell_below HB23.out (pw_cell_below HB22.out (pw_cell_below HB21.out (pw_cell_below HB20.out HT80.out)))))))))))))))))
  go_wp2_with fail
  go_ret
  exact ⟨rfl, HT36.out⟩
theorem contangolaw11_awake.calls (r : Bool) (w : World) (h : contangolaw11_awake.f = some r) :
    Calls Try.prog 19 #[] w fun e w' => e = .returned (.bool r) ∧ Below w.heap.size w w' := by
  injection h with h
  rw [← h]
  exact awake_walk w
end Go.Proofs.Ytgjifkegfbpjkaa.Q
end
