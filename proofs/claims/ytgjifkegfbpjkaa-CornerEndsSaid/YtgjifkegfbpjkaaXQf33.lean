/- Walks of functions of the seat, by a program of this session's over the kit's print: each contract says what a call comes to. -/
import Derived.Test.YtgjifkegfbpjkaaXBase
import Derived.Test.YtgjifkegfbpjkaaXQf26
import Derived.Test.YtgjifkegfbpjkaaXQf75
import Derived.Test.YtgjifkegfbpjkaaXQf34
import Derived.Test.YtgjifkegfbpjkaaXQf81
section
namespace Go.Proofs.Ytgjifkegfbpjkaa.Q
open Go.RowKit Go.Proofs.YtgjifkegfbpjkaaW.PrintWords Go.Proofs.YtgjifkegfbpjkaaW.PrintLast Go.Proofs.YtgjifkegfbpjkaaW.PrintMore
attribute [local go_sem] max2_int min2_int max_two min_two max_three min_three max_four min_four
set_option linter.unusedVariables false
set_option linter.unusedSimpArgs false
def contangoref11_Bounds.l0 : Nat → Bool → Int → Int → List (S88) → List (S101) → Int → Int → Option (Int × Int × Bool)
  | 0, _, _, _, _, _, _, _ => none
  | k + 1, x5, x6, x318000, x318001, x318002, x320000, x320001 => (contangoref11_Many.f k x318000 x318001 x318002).bind fun t320 => (if x6 < t320 then ((contangoref11_Nth.f k x318000 x318001 x318002 x6).bind fun t321 => ((contangoref11_IsTruth.f k x318000 x318001 x318002 t321).bind fun t324 => (if t324 = true then ((contangoref11_Short.f k x318000 x318001 x318002 t321).bind fun t325 => (if x5 = true then (contangoref11_Bounds.l0 k x5 (wrap64 (x6 + 1)) x318000 x318001 x318002 (mn x320000 t325) (mx x320001 t325)) else (contangoref11_Bounds.l0 k true (wrap64 (x6 + 1)) x318000 x318001 x318002 (mn t325 t325) (mx t325 t325)))) else (contangoref11_Bounds.l0 k x5 (wrap64 (x6 + 1)) x318000 x318001 x318002 x320000 x320001)))) else (some (x320000, x320001, x5)))
def contangoref11_Bounds.f (k : Nat) (a0_0 : Int) (l0_1 : List (S88)) (l0_2 : List (S101)) : Option (Int × Int × Bool) := contangoref11_Bounds.l0 k false 0 a0_0 l0_1 l0_2 0 0
theorem contangoref11_Bounds.mono_l : ∀ k, (∀ y0 y1 y2 y3 y4 y5 y6, LeO (contangoref11_Bounds.l0 k y0 y1 y2 y3 y4 y5 y6) (contangoref11_Bounds.l0 (k + 1) y0 y1 y2 y3 y4 y5 y6))
  | 0 => fun _ _ _ _ _ _ _ r h => by simp [contangoref11_Bounds.l0] at h
  | k + 1 => by
    have ih0 := contangoref11_Bounds.mono_l k
    · intro y0 y1 y2 y3 y4 y5 y6
      unfold contangoref11_Bounds.l0
      repeat' first
      | (with_reducible exact ih0 _ _ _ _ _ _ _)
      | (with_reducible exact contangoref11_IsTruth.mono _ _ _ _ _)
      | (with_reducible exact contangoref11_Many.mono _ _ _ _)
      | (with_reducible exact contangoref11_Nth.mono _ _ _ _ _)
      | (with_reducible exact contangoref11_Short.mono _ _ _ _ _)
      | (with_reducible exact LeO.refl _)
      | (with_reducible exact LeO.none _)
      | (with_reducible refine LeO.ite ?_ ?_)
      | (with_reducible refine LeO.bind ?_ (fun _ => ?_))
      | exact ih0 _ _ _ _ _ _ _
      | exact contangoref11_IsTruth.mono _ _ _ _ _
      | exact contangoref11_Many.mono _ _ _ _
      | exact contangoref11_Nth.mono _ _ _ _ _
      | exact contangoref11_Short.mono _ _ _ _ _
      | exact LeO.none _
      | refine LeO.ite ?_ ?_
      | refine LeO.bind ?_ (fun _ => ?_)
theorem contangoref11_Bounds.mono : ∀ a0 a1 a2 k, LeO (contangoref11_Bounds.f k a0 a1 a2) (contangoref11_Bounds.f (k + 1) a0 a1 a2) := by
  intro a0 a1 a2 k
  have ih0 := contangoref11_Bounds.mono_l k
  unfold contangoref11_Bounds.f
  repeat' first
      | (with_reducible exact ih0 _ _ _ _ _ _ _)
      | (with_reducible exact contangoref11_IsTruth.mono _ _ _ _ _)
      | (with_reducible exact contangoref11_Many.mono _ _ _ _)
      | (with_reducible exact contangoref11_Nth.mono _ _ _ _ _)
      | (with_reducible exact contangoref11_Short.mono _ _ _ _ _)
      | (with_reducible exact LeO.refl _)
      | (with_reducible exact LeO.none _)
      | (with_reducible refine LeO.ite ?_ ?_)
      | (with_reducible refine LeO.bind ?_ (fun _ => ?_))
      | exact ih0 _ _ _ _ _ _ _
      | exact contangoref11_IsTruth.mono _ _ _ _ _
      | exact contangoref11_Many.mono _ _ _ _
      | exact contangoref11_Nth.mono _ _ _ _ _
      | exact contangoref11_Short.mono _ _ _ _ _
      | exact LeO.none _
      | refine LeO.ite ?_ ?_
      | refine LeO.bind ?_ (fun _ => ?_)
set_option maxHeartbeats 8000000 in
set_option maxRecDepth 100000 in
theorem contangoref11_Bounds.calls (k : Nat) (a0_0 : Int) (A0_1 : Option Addr) (c0_1 : Nat) (l0_1 : List (S88)) (A0_2 : Option Addr) (c0_2 : Nat) (l0_2 : List (S101)) (r1 : Int) (r2 : Int) (r3 : Bool) (w : World) (hr0_1 : Kd.C k88 w A0_1 l0_1.length l0_1) (hc0_1 : l0_1.length ≤ c0_1) (hr0_2 : Kd.C k101 w A0_2 l0_2.length l0_2) (hc0_2 : l0_2.length ≤ c0_2) (h : contangoref11_Bounds.f k a0_0 l0_1 l0_2 = some (r1, r2, r3)) :
    Calls Try.prog 33 #[.agg #[.int .i64 a0_0, .slice A0_1 l0_1.length c0_1, .slice A0_2 l0_2.length c0_2]] w fun e w' => e = .returned (.tuple #[.agg #[.int .i64 r1, .int .i64 r2], .bool r3]) ∧ Below w.heap.size w w' := by
  have hu25 := Try.underlying25
  have hu53 := Try.underlying53
  have HR0_1 := Aside0.mk hr0_1
  have HC0_1 := Aside0.mk hc0_1
  clear hr0_1 hc0_1
  have HR0_2 := Aside0.mk hr0_2
  have HC0_2 := Aside0.mk hc0_2
  clear hr0_2 hc0_2
  have HB := Aside0.mk (Below.refl w.heap.size w)
  have H : (contangoref11_Bounds.l0 k false 0 a0_0 l0_1 l0_2 0 0) = some (r1, r2, r3) := h
  clear h
  have H' := Aside0.mk H
  clear H
  go_enter Try.func33, Try.ntmps33
  go_wp2_with (first | ((with_reducible refine gate_dst (N := 1) rfl ?_); refine box_event ?hg (N := 1) ?hd (cs := #[.int .i64 a0_0, .slice A0_1 l0_1.length c0_1, .slice A0_2 l0_2.length c0_2]) (t := 25) ?hr ?_; (case hd => rfl); (case hg => rfl); (case hr => exact hr_); intro gb317 hg w2 hbox hb; have n0_ := Aside0.mk (below_step bs_ hb); have n1_ := Aside0.mk (hbox); have n2_ := Aside0.mk (gs_ w hg); have n3_ := Aside0.mk (gs_ w hg); clear HB; have HB := n0_; have BK317 := n1_; have GW317 := n2_; have GE317 := n3_; clear n0_ n1_ n2_ n3_; clear hb hbox hg) | ((with_reducible refine gate_dst (N := 2) rfl ?_); refine box_event ?hg (N := 2) ?hd (cs := #[.int .i64 0, .int .i64 0]) (t := 53) ?hr ?_; (case hd => rfl); (case hg => rfl); (case hr => exact hr_); intro gb318 hg w3 hbox hb; have n0_ := Aside0.mk (blk_below BK317.out hb); have n1_ := Aside0.mk (below_step bs_ hb); have n2_ := Aside0.mk (hbox); have n3_ := Aside0.mk (gs_ w hg); have n4_ := Aside0.mk (gs_ w hg); have n5_ := Aside0.mk ((by rw [hg]; exact Nat.ne_of_lt (blk_lt BK317.out) : gb317 ≠ gb318)); have n6_ := Aside0.mk ((by rw [hg]; exact Nat.ne_of_gt (blk_lt BK317.out) : gb318 ≠ gb317)); clear BK317; clear HB; have BK317 := n0_; have HB := n1_; have BK318 := n2_; have GW318 := n3_; have GE318 := n4_; have NB317_318 := n5_; have NB318_317 := n6_; clear n0_ n1_ n2_ n3_ n4_ n5_ n6_; clear hb hbox hg) | ((with_reducible refine gate_dst (N := 4) rfl ?_); refine box_event ?hg (N := 4) ?hd (cs := #[.int .i64 0, .int .i64 0]) (t := 53) ?hr ?_; (case hd => rfl); (case hg => rfl); (case hr => exact hr_); intro gb319 hg w4 hbox hb; have n0_ := Aside0.mk (blk_below BK317.out hb); have n1_ := Aside0.mk (blk_below BK318.out hb); have n2_ := Aside0.mk (below_step bs_ hb); have n3_ := Aside0.mk (hbox); have n4_ := Aside0.mk (gs_ w hg); have n5_ := Aside0.mk (gs_ w hg); have n6_ := Aside0.mk ((by rw [hg]; exact Nat.ne_of_lt (blk_lt BK317.out) : gb317 ≠ gb319)); have n7_ := Aside0.mk ((by rw [hg]; exact Nat.ne_of_gt (blk_lt BK317.out) : gb319 ≠ gb317)); have n8_ := Aside0.mk ((by rw [hg]; exact Nat.ne_of_lt (blk_lt BK318.out) : gb318 ≠ gb319)); have n9_ := Aside0.mk ((by rw [hg]; exact Nat.ne_of_gt (blk_lt BK318.out) : gb319 ≠ gb318)); clear BK317; clear BK318; clear HB; have BK317 := n0_; have BK318 := n1_; have HB := n2_; have BK319 := n3_; have GW319 := n4_; have GE319 := n5_; have NB317_319 := n6_; have NB319_317 := n7_; have NB318_319 := n8_; have NB319_318 := n9_; clear n0_ n1_ n2_ n3_ n4_ n5_ n6_ n7_ n8_ n9_; clear hb hbox hg))
  go_loopg [5, 6] k (fun kq v5 v6 w' => ∃ (x5_1 : Bool) (x6_1 : Int) (x320000_1 : Int) (x320001_1 : Int), v5 = .bool x5_1 ∧ v6 = .int .i64 x6_1 ∧ Aside0 (contangoref11_Bounds.l0 kq x5_1 x6_1 a0_0 l0_1 l0_2 x320000_1 x320001_1 = some (r1, r2, r3)) ∧ Aside0 (kq ≤ k) ∧ Aside0 (w'.heap[gb317]? = some (.cells #[.int .i64 a0_0, (.slice A0_1 l0_1.length c0_1), (.slice A0_2 l0_2.length c0_2)] 25 (0, 0))) ∧ Aside0 (w'.heap[gb318]? = some (.cells #[.int .i64 0, .int .i64 0] 53 (0, 0))) ∧ Aside0 (w'.heap[gb319]? = some (.cells #[.int .i64 x320000_1, .int .i64 x320001_1] 53 (0, 0))) ∧ Aside0 (Below w.heap.size w w'))
  case atStart => exact ⟨(false), (0), (0), (0), fy_, fy_, H', ⟨Nat.le_refl _⟩, ⟨by exact BK317.out⟩, ⟨by exact BK318.out⟩, ⟨by exact BK319.out⟩, ⟨bs_⟩⟩
  case round =>
    clear H'
    try clear p2
    try clear c3
    obtain ⟨x5_1, x6_1, x320000_1, x320001_1, rfl, rfl, HA, HK1, BK317, BK318, BK319, HB⟩ := hrel
    cases gk with
    | zero => exact absurd HA.out (by simp [contangoref11_Bounds.l0])
    | succ k1 =>
      have H := HA.out
      clear HA
      simp only [contangoref11_Bounds.l0] at H
      replace H := Option.bind_eq_some_iff.mp H
      obtain ⟨t320, A50, H⟩ := H
      replace H : (if x6_1 < t320 then ((contangoref11_Nth.f k1 a0_0 l0_1 l0_2 x6_1).bind fun t321 => ((contangoref11_IsTruth.f k1 a0_0 l0_1 l0_2 t321).bind fun t324 => (if t324 = true then ((contangoref11_Short.f k1 a0_0 l0_1 l0_2 t321).bind fun t325 => (if x5_1 = true then (contangoref11_Bounds.l0 k1 x5_1 (wrap64 (x6_1 + 1)) a0_0 l0_1 l0_2 (mn x320000_1 t325) (mx x320001_1 t325)) else (contangoref11_Bounds.l0 k1 true (wrap64 (x6_1 + 1)) a0_0 l0_1 l0_2 (mn t325 t325) (mx t325 t325)))) else (contangoref11_Bounds.l0 k1 x5_1 (wrap64 (x6_1 + 1)) a0_0 l0_1 l0_2 x320000_1 x320001_1)))) else (some (x320000_1, x320001_1, x5_1))) = some (r1, r2, r3) := H
      have A5 := Aside0.mk A50
      clear A50
      by_cases c6 : x6_1 < t320
      · rw [if_pos c6] at H
        have c6b0 : decide (x6_1 < t320) = true := decide_eq_true c6
        clear c6
        replace H := Option.bind_eq_some_iff.mp H
        obtain ⟨t321, A70, H⟩ := H
        replace H : ((contangoref11_IsTruth.f k1 a0_0 l0_1 l0_2 t321).bind fun t324 => (if t324 = true then ((contangoref11_Short.f k1 a0_0 l0_1 l0_2 t321).bind fun t325 => (if x5_1 = true then (contangoref11_Bounds.l0 k1 x5_1 (wrap64 (x6_1 + 1)) a0_0 l0_1 l0_2 (mn x320000_1 t325) (mx x320001_1 t325)) else (contangoref11_Bounds.l0 k1 true (wrap64 (x6_1 + 1)) a0_0 l0_1 l0_2 (mn t325 t325) (mx t325 t325)))) else (contangoref11_Bounds.l0 k1 x5_1 (wrap64 (x6_1 + 1)) a0_0 l0_1 l0_2 x320000_1 x320001_1))) = some (r1, r2, r3) := H
        have A7 := Aside0.mk A70
        clear A70
        replace H := Option.bind_eq_some_iff.mp H
        obtain ⟨t324, A80, H⟩ := H
        replace H : (if t324 = true then ((contangoref11_Short.f k1 a0_0 l0_1 l0_2 t321).bind fun t325 => (if x5_1 = true then (contangoref11_Bounds.l0 k1 x5_1 (wrap64 (x6_1 + 1)) a0_0 l0_1 l0_2 (mn x320000_1 t325) (mx x320001_1 t325)) else (contangoref11_Bounds.l0 k1 true (wrap64 (x6_1 + 1)) a0_0 l0_1 l0_2 (mn t325 t325) (mx t325 t325)))) else (contangoref11_Bounds.l0 k1 x5_1 (wrap64 (x6_1 + 1)) a0_0 l0_1 l0_2 x320000_1 x320001_1)) = some (r1, r2, r3) := H
        have A8 := Aside0.mk A80
        clear A80
        by_cases c9 : t324 = true
        · subst c9
          have H1 : ((contangoref11_Short.f k1 a0_0 l0_1 l0_2 t321).bind fun t325 => (if x5_1 = true then (contangoref11_Bounds.l0 k1 x5_1 (wrap64 (x6_1 + 1)) a0_0 l0_1 l0_2 (mn x320000_1 t325) (mx x320001_1 t325)) else (contangoref11_Bounds.l0 k1 true (wrap64 (x6_1 + 1)) a0_0 l0_1 l0_2 (mn t325 t325) (mx t325 t325)))) = some (r1, r2, r3) := by rw [if_pos rfl] at H; exact H
          clear H
          have H := H1
          clear H1
          replace H := Option.bind_eq_some_iff.mp H
          obtain ⟨t325, A100, H⟩ := H
          replace H : (if x5_1 = true then (contangoref11_Bounds.l0 k1 x5_1 (wrap64 (x6_1 + 1)) a0_0 l0_1 l0_2 (mn x320000_1 t325) (mx x320001_1 t325)) else (contangoref11_Bounds.l0 k1 true (wrap64 (x6_1 + 1)) a0_0 l0_1 l0_2 (mn t325 t325) (mx t325 t325))) = some (r1, r2, r3) := H
          have A10 := Aside0.mk A100
          clear A100
          by_cases c11 : x5_1 = true
          · subst c11
            have H1 : (contangoref11_Bounds.l0 k1 true (wrap64 (x6_1 + 1)) a0_0 l0_1 l0_2 (mn x320000_1 t325) (mx x320001_1 t325)) = some (r1, r2, r3) := by rw [if_pos rfl] at H; exact H
            clear H
            have H := H1
            clear H1
            obtain ⟨ji12, hji12⟩ : ∃ j_ : Int, (mn x320000_1 t325) = j_ := ⟨_, rfl⟩
            replace H : (contangoref11_Bounds.l0 k1 true (wrap64 (x6_1 + 1)) a0_0 l0_1 l0_2 ji12 (mx x320001_1 t325)) = some (r1, r2, r3) := by first | (rw [hji12] at H; exact H) | (simp only [hji12] at H ⊢; exact H)
            (try rw [hji12] at A5)
            (try rw [hji12] at A7)
            (try rw [hji12] at A8)
            (try rw [hji12] at A10)
            have hji12_ : (if t325 < x320000_1 then t325 else x320000_1) = ji12 := hji12
            obtain ⟨ji13, hji13⟩ : ∃ j_ : Int, (mx x320001_1 t325) = j_ := ⟨_, rfl⟩
            replace H : (contangoref11_Bounds.l0 k1 true (wrap64 (x6_1 + 1)) a0_0 l0_1 l0_2 ji12 ji13) = some (r1, r2, r3) := by first | (rw [hji13] at H; exact H) | (simp only [hji13] at H ⊢; exact H)
            (try rw [hji13] at A5)
            (try rw [hji13] at A7)
            (try rw [hji13] at A8)
            (try rw [hji13] at A10)
            have hji13_ : (if x320001_1 < t325 then t325 else x320001_1) = ji13 := hji13
            have H' := Aside0.mk H
            clear H
            have hnb14 := NB317_318.out
            have hnc14 := NB318_317.out
            have hnb15 := NB317_319.out
            have hnc15 := NB319_317.out
            have hcz16_0 : wr.cell? ⟨gb317, 0, none⟩ = some (.int .i64 a0_0) := (blk_cell BK317.out 0).trans rfl
            have hcz16_1 : wr.cell? ⟨gb317, 1, none⟩ = some (.slice A0_1 l0_1.length c0_1) := (blk_cell BK317.out 1).trans rfl
            have hcz16_2 : wr.cell? ⟨gb317, 2, none⟩ = some (.slice A0_2 l0_2.length c0_2) := (blk_cell BK317.out 2).trans rfl
            have hfz16_0 := blk_frozen BK317.out 0
            have hfz16_1 := blk_frozen BK317.out 1
            have hfz16_2 := blk_frozen BK317.out 2
            go_wp2_with (first | ((with_reducible refine gate_callee (f := 75) rfl ?_); refine goesL_ (some 11) rfl rfl Try.func75 (by kernel_rfl) rfl #[.agg #[.int .i64 a0_0, .slice A0_1 l0_1.length c0_1, .slice A0_2 l0_2.length c0_2]] rfl ga_ ?_; (with_reducible refine (contangoref11_Many.calls k1 a0_0 _ _ l0_1 _ _ l0_2 t320 _ ?side1 ?side2 ?side3 ?side4 A5.out).mono ?_); (case side1 => exact kc_ HR0_1.out); (case side2 => exact HC0_1.out); (case side3 => exact kc_ HR0_2.out); (case side4 => exact HC0_2.out); rintro e w17 ⟨rfl, hb⟩; refine ⟨_, rfl, ?_⟩; have n0_ := Aside0.mk (blk_below BK317.out hb); have n1_ := Aside0.mk (blk_below BK318.out hb); have n2_ := Aside0.mk (blk_below BK319.out hb); have n3_ := Aside0.mk (below_step bs_ hb); clear BK317; clear BK318; clear BK319; clear HB; have BK317 := n0_; have BK318 := n1_; have BK319 := n2_; have HB := n3_; clear n0_ n1_ n2_ n3_; (try clear hb); (try clear hb2); (try clear hk); (try clear hi); have hcz18_0 : w17.cell? ⟨gb317, 0, none⟩ = some (.int .i64 a0_0) := (blk_cell BK317.out 0).trans rfl; have hcz18_1 : w17.cell? ⟨gb317, 1, none⟩ = some (.slice A0_1 l0_1.length c0_1) := (blk_cell BK317.out 1).trans rfl; have hcz18_2 : w17.cell? ⟨gb317, 2, none⟩ = some (.slice A0_2 l0_2.length c0_2) := (blk_cell BK317.out 2).trans rfl; have hfz18_0 := blk_frozen BK317.out 0; have hfz18_1 := blk_frozen BK317.out 1; have hfz18_2 := blk_frozen BK317.out 2) | ((with_reducible refine gate_callee (f := 81) rfl ?_); refine goesL_ (some 17) rfl rfl Try.func81 (by kernel_rfl) rfl #[.agg #[.int .i64 a0_0, .slice A0_1 l0_1.length c0_1, .slice A0_2 l0_2.length c0_2], .int .i64 x6_1] rfl ga_ ?_; (with_reducible refine (contangoref11_Nth.calls k1 a0_0 _ _ l0_1 _ _ l0_2 x6_1 t321 _ ?side1 ?side2 ?side3 ?side4 A7.out).mono ?_); (case side1 => exact kc_ HR0_1.out); (case side2 => exact HC0_1.out); (case side3 => exact kc_ HR0_2.out); (case side4 => exact HC0_2.out); rintro e w19 ⟨v322, rfl, ho0, hb⟩; refine ⟨_, rfl, ?_⟩; have n0_ := Aside0.mk (Kd.R_lower ho0 (below_size bs_)); have n1_ := Aside0.mk (blk_below BK317.out hb); have n2_ := Aside0.mk (blk_below BK318.out hb); have n3_ := Aside0.mk (blk_below BK319.out hb); have n4_ := Aside0.mk (below_step bs_ hb); clear BK317; clear BK318; clear BK319; clear HB; have HO323 := n0_; have BK317 := n1_; have BK318 := n2_; have BK319 := n3_; have HB := n4_; clear n0_ n1_ n2_ n3_ n4_; (try clear hb); (try clear hb2); (try clear hk); (try clear hi); (try clear ho0); have hcz20_0 : w19.cell? ⟨gb317, 0, none⟩ = some (.int .i64 a0_0) := (blk_cell BK317.out 0).trans rfl; have hcz20_1 : w19.cell? ⟨gb317, 1, none⟩ = some (.slice A0_1 l0_1.length c0_1) := (blk_cell BK317.out 1).trans rfl; have hcz20_2 : w19.cell? ⟨gb317, 2, none⟩ = some (.slice A0_2 l0_2.length c0_2) := (blk_cell BK317.out 2).trans rfl; have hfz20_0 := blk_frozen BK317.out 0; have hfz20_1 := blk_frozen BK317.out 1; have hfz20_2 := blk_frozen BK317.out 2; obtain ⟨Ao21, co21, eo21⟩ := Kd.R_slice HO323.out; subst eo21) | ((with_reducible refine gate_callee (f := 26) rfl ?_); refine goesL_ (some 20) rfl rfl Try.func26 (by kernel_rfl) rfl #[.agg #[.int .i64 a0_0, .slice A0_1 l0_1.length c0_1, .slice A0_2 l0_2.length c0_2], .slice Ao21 t321.length co21] rfl ga_ ?_; (with_reducible refine (contangoref11_IsTruth.calls k1 a0_0 _ _ l0_1 _ _ l0_2 _ _ t321 true _ ?side1 ?side2 ?side3 ?side4 ?side5 ?side6 A8.out).mono ?_); (case side1 => exact kc_ HR0_1.out); (case side2 => exact HC0_1.out); (case side3 => exact kc_ HR0_2.out); (case side4 => exact HC0_2.out); (case side5 => repeat (first | exact (Kd.R_reads' HO323.out).2.2 | (with_reducible refine Kd.C_alloc ?_ _) | (with_reducible refine Kd.C_drewN ?_ _) | (with_reducible refine Kd.C_drew ?_))); (case side6 => exact (Kd.R_reads' HO323.out).2.1); rintro e w22 ⟨rfl, hb⟩; refine ⟨_, rfl, ?_⟩; have n0_ := Aside0.mk (Kd.R_below HO323.out hb); have n1_ := Aside0.mk (blk_below BK317.out hb); have n2_ := Aside0.mk (blk_below BK318.out hb); have n3_ := Aside0.mk (blk_below BK319.out hb); have n4_ := Aside0.mk (below_step bs_ hb); clear HO323; clear BK317; clear BK318; clear BK319; clear HB; have HO323 := n0_; have BK317 := n1_; have BK318 := n2_; have BK319 := n3_; have HB := n4_; clear n0_ n1_ n2_ n3_ n4_; (try clear hb); (try clear hb2); (try clear hk); (try clear hi); have hcz23_0 : w22.cell? ⟨gb317, 0, none⟩ = some (.int .i64 a0_0) := (blk_cell BK317.out 0).trans rfl; have hcz23_1 : w22.cell? ⟨gb317, 1, none⟩ = some (.slice A0_1 l0_1.length c0_1) := (blk_cell BK317.out 1).trans rfl; have hcz23_2 : w22.cell? ⟨gb317, 2, none⟩ = some (.slice A0_2 l0_2.length c0_2) := (blk_cell BK317.out 2).trans rfl; have hfz23_0 := blk_frozen BK317.out 0; have hfz23_1 := blk_frozen BK317.out 1; have hfz23_2 := blk_frozen BK317.out 2) | ((with_reducible refine gate_callee (f := 34) rfl ?_); refine goesL_ (some 24) rfl rfl Try.func34 (by kernel_rfl) rfl #[.agg #[.int .i64 a0_0, .slice A0_1 l0_1.length c0_1, .slice A0_2 l0_2.length c0_2], .slice Ao21 t321.length co21] rfl ga_ ?_; (with_reducible refine (contangoref11_Short.calls k1 a0_0 _ _ l0_1 _ _ l0_2 _ _ t321 t325 _ ?side1 ?side2 ?side3 ?side4 ?side5 ?side6 A10.out).mono ?_); (case side1 => exact kc_ HR0_1.out); (case side2 => exact HC0_1.out); (case side3 => exact kc_ HR0_2.out); (case side4 => exact HC0_2.out); (case side5 => repeat (first | exact (Kd.R_reads' HO323.out).2.2 | (with_reducible refine Kd.C_alloc ?_ _) | (with_reducible refine Kd.C_drewN ?_ _) | (with_reducible refine Kd.C_drew ?_))); (case side6 => exact (Kd.R_reads' HO323.out).2.1); rintro e w24 ⟨rfl, hb⟩; refine ⟨_, rfl, ?_⟩; have n0_ := Aside0.mk (Kd.R_below HO323.out hb); have n1_ := Aside0.mk (blk_below BK317.out hb); have n2_ := Aside0.mk (blk_below BK318.out hb); have n3_ := Aside0.mk (blk_below BK319.out hb); have n4_ := Aside0.mk (below_step bs_ hb); clear HO323; clear BK317; clear BK318; clear BK319; clear HB; have HO323 := n0_; have BK317 := n1_; have BK318 := n2_; have BK319 := n3_; have HB := n4_; clear n0_ n1_ n2_ n3_ n4_; (try clear hb); (try clear hb2); (try clear hk); (try clear hi); have hnb25 := NB319_318.out; have hnc25 := NB318_319.out; have hcz26_0 : w24.cell? ⟨gb319, 0, none⟩ = some (.int .i64 x320000_1) := (blk_cell BK319.out 0).trans rfl; have hcz26_1 : w24.cell? ⟨gb319, 1, none⟩ = some (.int .i64 x320001_1) := (blk_cell BK319.out 1).trans rfl; have hfz26_0 := blk_frozen BK319.out 0; have hfz26_1 := blk_frozen BK319.out 1))
            go_roundg k1
            case measure => have := HK1.out; omega
            case rel => exact ⟨(true), (wrap64 (x6_1 + 1)), (ji12), (ji13), fy_, fy_, H', ⟨by have := HK1.out; omega⟩, ⟨by refine blk_far ?_ NB317_319.out _; refine blk_far ?_ NB317_319.out _; exact BK317.out⟩, ⟨by refine blk_far ?_ NB318_319.out _; refine blk_far ?_ NB318_319.out _; exact BK318.out⟩, ⟨by refine blk_put (cs := #[.int .i64 ji12, .int .i64 x320001_1]) ?_ 1 _ rfl; refine blk_put (cs := #[.int .i64 x320000_1, .int .i64 x320001_1]) ?_ 0 _ rfl; exact BK319.out⟩, ⟨bs_⟩⟩
          · replace c11 := Bool.eq_false_iff.mpr c11
            subst c11
            have H1 : (contangoref11_Bounds.l0 k1 true (wrap64 (x6_1 + 1)) a0_0 l0_1 l0_2 (mn t325 t325) (mx t325 t325)) = some (r1, r2, r3) := by rw [if_neg (show ¬ (false = true) by decide)] at H; exact H
            clear H
            have H := H1
            clear H1
            obtain ⟨ji27, hji27⟩ : ∃ j_ : Int, (mn t325 t325) = j_ := ⟨_, rfl⟩
            replace H : (contangoref11_Bounds.l0 k1 true (wrap64 (x6_1 + 1)) a0_0 l0_1 l0_2 ji27 (mx t325 t325)) = some (r1, r2, r3) := by first | (rw [hji27] at H; exact H) | (simp only [hji27] at H ⊢; exact H)
            (try rw [hji27] at A5)
            (try rw [hji27] at A7)
            (try rw [hji27] at A8)
            (try rw [hji27] at A10)
            have hji27_ : (if t325 < t325 then t325 else t325) = ji27 := hji27
            obtain ⟨ji28, hji28⟩ : ∃ j_ : Int, (mx t325 t325) = j_ := ⟨_, rfl⟩
            replace H : (contangoref11_Bounds.l0 k1 true (wrap64 (x6_1 + 1)) a0_0 l0_1 l0_2 ji27 ji28) = some (r1, r2, r3) := by first | (rw [hji28] at H; exact H) | (simp only [hji28] at H ⊢; exact H)
            (try rw [hji28] at A5)
            (try rw [hji28] at A7)
            (try rw [hji28] at A8)
            (try rw [hji28] at A10)
            have hji28_ : (if t325 < t325 then t325 else t325) = ji28 := hji28
            have eji27 := Aside0.mk (show t325 = ji27 by rw [← hji27]; unfold mn; simp)
            have eji28 := Aside0.mk (show t325 = ji28 by rw [← hji28]; unfold mx; simp)
            have H' := Aside0.mk H
            clear H
            have hnb29 := NB317_318.out
            have hnc29 := NB318_317.out
            have hnb30 := NB317_319.out
            have hnc30 := NB319_317.out
            have hcz31_0 : wr.cell? ⟨gb317, 0, none⟩ = some (.int .i64 a0_0) := (blk_cell BK317.out 0).trans rfl
            have hcz31_1 : wr.cell? ⟨gb317, 1, none⟩ = some (.slice A0_1 l0_1.length c0_1) := (blk_cell BK317.out 1).trans rfl
            have hcz31_2 : wr.cell? ⟨gb317, 2, none⟩ = some (.slice A0_2 l0_2.length c0_2) := (blk_cell BK317.out 2).trans rfl
            have hfz31_0 := blk_frozen BK317.out 0
            have hfz31_1 := blk_frozen BK317.out 1
            have hfz31_2 := blk_frozen BK317.out 2
            go_wp2_with (first | ((with_reducible refine gate_callee (f := 75) rfl ?_); refine goesL_ (some 11) rfl rfl Try.func75 (by kernel_rfl) rfl #[.agg #[.int .i64 a0_0, .slice A0_1 l0_1.length c0_1, .slice A0_2 l0_2.length c0_2]] rfl ga_ ?_; (with_reducible refine (contangoref11_Many.calls k1 a0_0 _ _ l0_1 _ _ l0_2 t320 _ ?side1 ?side2 ?side3 ?side4 A5.out).mono ?_); (case side1 => exact kc_ HR0_1.out); (case side2 => exact HC0_1.out); (case side3 => exact kc_ HR0_2.out); (case side4 => exact HC0_2.out); rintro e w32 ⟨rfl, hb⟩; refine ⟨_, rfl, ?_⟩; have n0_ := Aside0.mk (blk_below BK317.out hb); have n1_ := Aside0.mk (blk_below BK318.out hb); have n2_ := Aside0.mk (blk_below BK319.out hb); have n3_ := Aside0.mk (below_step bs_ hb); clear BK317; clear BK318; clear BK319; clear HB; have BK317 := n0_; have BK318 := n1_; have BK319 := n2_; have HB := n3_; clear n0_ n1_ n2_ n3_; (try clear hb); (try clear hb2); (try clear hk); (try clear hi); have hcz33_0 : w32.cell? ⟨gb317, 0, none⟩ = some (.int .i64 a0_0) := (blk_cell BK317.out 0).trans rfl; have hcz33_1 : w32.cell? ⟨gb317, 1, none⟩ = some (.slice A0_1 l0_1.length c0_1) := (blk_cell BK317.out 1).trans rfl; have hcz33_2 : w32.cell? ⟨gb317, 2, none⟩ = some (.slice A0_2 l0_2.length c0_2) := (blk_cell BK317.out 2).trans rfl; have hfz33_0 := blk_frozen BK317.out 0; have hfz33_1 := blk_frozen BK317.out 1; have hfz33_2 := blk_frozen BK317.out 2) | ((with_reducible refine gate_callee (f := 81) rfl ?_); refine goesL_ (some 17) rfl rfl Try.func81 (by kernel_rfl) rfl #[.agg #[.int .i64 a0_0, .slice A0_1 l0_1.length c0_1, .slice A0_2 l0_2.length c0_2], .int .i64 x6_1] rfl ga_ ?_; (with_reducible refine (contangoref11_Nth.calls k1 a0_0 _ _ l0_1 _ _ l0_2 x6_1 t321 _ ?side1 ?side2 ?side3 ?side4 A7.out).mono ?_); (case side1 => exact kc_ HR0_1.out); (case side2 => exact HC0_1.out); (case side3 => exact kc_ HR0_2.out); (case side4 => exact HC0_2.out); rintro e w34 ⟨v322, rfl, ho0, hb⟩; refine ⟨_, rfl, ?_⟩; have n0_ := Aside0.mk (Kd.R_lower ho0 (below_size bs_)); have n1_ := Aside0.mk (blk_below BK317.out hb); have n2_ := Aside0.mk (blk_below BK318.out hb); have n3_ := Aside0.mk (blk_below BK319.out hb); have n4_ := Aside0.mk (below_step bs_ hb); clear BK317; clear BK318; clear BK319; clear HB; have HO323 := n0_; have BK317 := n1_; have BK318 := n2_; have BK319 := n3_; have HB := n4_; clear n0_ n1_ n2_ n3_ n4_; (try clear hb); (try clear hb2); (try clear hk); (try clear hi); (try clear ho0); have hcz35_0 : w34.cell? ⟨gb317, 0, none⟩ = some (.int .i64 a0_0) := (blk_cell BK317.out 0).trans rfl; have hcz35_1 : w34.cell? ⟨gb317, 1, none⟩ = some (.slice A0_1 l0_1.length c0_1) := (blk_cell BK317.out 1).trans rfl; have hcz35_2 : w34.cell? ⟨gb317, 2, none⟩ = some (.slice A0_2 l0_2.length c0_2) := (blk_cell BK317.out 2).trans rfl; have hfz35_0 := blk_frozen BK317.out 0; have hfz35_1 := blk_frozen BK317.out 1; have hfz35_2 := blk_frozen BK317.out 2; obtain ⟨Ao36, co36, eo36⟩ := Kd.R_slice HO323.out; subst eo36) | ((with_reducible refine gate_callee (f := 26) rfl ?_); refine goesL_ (some 20) rfl rfl Try.func26 (by kernel_rfl) rfl #[.agg #[.int .i64 a0_0, .slice A0_1 l0_1.length c0_1, .slice A0_2 l0_2.length c0_2], .slice Ao36 t321.length co36] rfl ga_ ?_; (with_reducible refine (contangoref11_IsTruth.calls k1 a0_0 _ _ l0_1 _ _ l0_2 _ _ t321 true _ ?side1 ?side2 ?side3 ?side4 ?side5 ?side6 A8.out).mono ?_); (case side1 => exact kc_ HR0_1.out); (case side2 => exact HC0_1.out); (case side3 => exact kc_ HR0_2.out); (case side4 => exact HC0_2.out); (case side5 => repeat (first | exact (Kd.R_reads' HO323.out).2.2 | (with_reducible refine Kd.C_alloc ?_ _) | (with_reducible refine Kd.C_drewN ?_ _) | (with_reducible refine Kd.C_drew ?_))); (case side6 => exact (Kd.R_reads' HO323.out).2.1); rintro e w37 ⟨rfl, hb⟩; refine ⟨_, rfl, ?_⟩; have n0_ := Aside0.mk (Kd.R_below HO323.out hb); have n1_ := Aside0.mk (blk_below BK317.out hb); have n2_ := Aside0.mk (blk_below BK318.out hb); have n3_ := Aside0.mk (blk_below BK319.out hb); have n4_ := Aside0.mk (below_step bs_ hb); clear HO323; clear BK317; clear BK318; clear BK319; clear HB; have HO323 := n0_; have BK317 := n1_; have BK318 := n2_; have BK319 := n3_; have HB := n4_; clear n0_ n1_ n2_ n3_ n4_; (try clear hb); (try clear hb2); (try clear hk); (try clear hi); have hcz38_0 : w37.cell? ⟨gb317, 0, none⟩ = some (.int .i64 a0_0) := (blk_cell BK317.out 0).trans rfl; have hcz38_1 : w37.cell? ⟨gb317, 1, none⟩ = some (.slice A0_1 l0_1.length c0_1) := (blk_cell BK317.out 1).trans rfl; have hcz38_2 : w37.cell? ⟨gb317, 2, none⟩ = some (.slice A0_2 l0_2.length c0_2) := (blk_cell BK317.out 2).trans rfl; have hfz38_0 := blk_frozen BK317.out 0; have hfz38_1 := blk_frozen BK317.out 1; have hfz38_2 := blk_frozen BK317.out 2) | ((with_reducible refine gate_callee (f := 34) rfl ?_); refine goesL_ (some 24) rfl rfl Try.func34 (by kernel_rfl) rfl #[.agg #[.int .i64 a0_0, .slice A0_1 l0_1.length c0_1, .slice A0_2 l0_2.length c0_2], .slice Ao36 t321.length co36] rfl ga_ ?_; (with_reducible refine (contangoref11_Short.calls k1 a0_0 _ _ l0_1 _ _ l0_2 _ _ t321 t325 _ ?side1 ?side2 ?side3 ?side4 ?side5 ?side6 A10.out).mono ?_); (case side1 => exact kc_ HR0_1.out); (case side2 => exact HC0_1.out); (case side3 => exact kc_ HR0_2.out); (case side4 => exact HC0_2.out); (case side5 => repeat (first | exact (Kd.R_reads' HO323.out).2.2 | (with_reducible refine Kd.C_alloc ?_ _) | (with_reducible refine Kd.C_drewN ?_ _) | (with_reducible refine Kd.C_drew ?_))); (case side6 => exact (Kd.R_reads' HO323.out).2.1); rintro e w39 ⟨rfl, hb⟩; refine ⟨_, rfl, ?_⟩; have n0_ := Aside0.mk (Kd.R_below HO323.out hb); have n1_ := Aside0.mk (blk_below BK317.out hb); have n2_ := Aside0.mk (blk_below BK318.out hb); have n3_ := Aside0.mk (blk_below BK319.out hb); have n4_ := Aside0.mk (below_step bs_ hb); clear HO323; clear BK317; clear BK318; clear BK319; clear HB; have HO323 := n0_; have BK317 := n1_; have BK318 := n2_; have BK319 := n3_; have HB := n4_; clear n0_ n1_ n2_ n3_ n4_; (try clear hb); (try clear hb2); (try clear hk); (try clear hi); have hnb40 := NB319_318.out; have hnc40 := NB318_319.out; have hcz41_0 : w39.cell? ⟨gb319, 0, none⟩ = some (.int .i64 x320000_1) := (blk_cell BK319.out 0).trans rfl; have hcz41_1 : w39.cell? ⟨gb319, 1, none⟩ = some (.int .i64 x320001_1) := (blk_cell BK319.out 1).trans rfl; have hfz41_0 := blk_frozen BK319.out 0; have hfz41_1 := blk_frozen BK319.out 1))
            go_roundg k1
            case measure => have := HK1.out; omega
            case rel => exact ⟨(true), (wrap64 (x6_1 + 1)), (ji27), (ji28), fy_, fy_, H', ⟨by have := HK1.out; omega⟩, ⟨by refine blk_far ?_ NB317_319.out _; refine blk_far ?_ NB317_319.out _; refine blk_far ?_ NB317_319.out _; refine blk_far ?_ NB317_319.out _; exact BK317.out⟩, ⟨by refine blk_far ?_ NB318_319.out _; refine blk_far ?_ NB318_319.out _; refine blk_far ?_ NB318_319.out _; refine blk_far ?_ NB318_319.out _; exact BK318.out⟩, ⟨by refine blk_put (cs := #[.int .i64 ji27, .int .i64 t325]) ?_ 1 _ (by first | rfl | (rw [← eji28.out]; rfl) | (rw [← eji27.out]; rfl) | (rw [← eji27.out, ← eji28.out]; rfl)); refine blk_put (cs := #[.int .i64 t325, .int .i64 t325]) ?_ 0 _ (by first | rfl | (rw [← eji28.out]; rfl) | (rw [← eji27.out]; rfl) | (rw [← eji27.out, ← eji28.out]; rfl)); refine blk_put (cs := #[.int .i64 t325, .int .i64 x320001_1]) ?_ 1 _ (by first | rfl | (rw [← eji28.out]; rfl) | (rw [← eji27.out]; rfl) | (rw [← eji27.out, ← eji28.out]; rfl)); refine blk_put (cs := #[.int .i64 x320000_1, .int .i64 x320001_1]) ?_ 0 _ (by first | rfl | (rw [← eji28.out]; rfl) | (rw [← eji27.out]; rfl) | (rw [← eji27.out, ← eji28.out]; rfl)); exact BK319.out⟩, ⟨bs_⟩⟩
        · replace c9 := Bool.eq_false_iff.mpr c9
          subst c9
          have H1 : (contangoref11_Bounds.l0 k1 x5_1 (wrap64 (x6_1 + 1)) a0_0 l0_1 l0_2 x320000_1 x320001_1) = some (r1, r2, r3) := by rw [if_neg (show ¬ (false = true) by decide)] at H; exact H
          clear H
          have H := H1
          clear H1
          have H' := Aside0.mk H
          clear H
          have hnb42 := NB317_318.out
          have hnc42 := NB318_317.out
          have hnb43 := NB317_319.out
          have hnc43 := NB319_317.out
          have hcz44_0 : wr.cell? ⟨gb317, 0, none⟩ = some (.int .i64 a0_0) := (blk_cell BK317.out 0).trans rfl
          have hcz44_1 : wr.cell? ⟨gb317, 1, none⟩ = some (.slice A0_1 l0_1.length c0_1) := (blk_cell BK317.out 1).trans rfl
          have hcz44_2 : wr.cell? ⟨gb317, 2, none⟩ = some (.slice A0_2 l0_2.length c0_2) := (blk_cell BK317.out 2).trans rfl
          have hfz44_0 := blk_frozen BK317.out 0
          have hfz44_1 := blk_frozen BK317.out 1
          have hfz44_2 := blk_frozen BK317.out 2
          go_wp2_with (first | ((with_reducible refine gate_callee (f := 75) rfl ?_); refine goesL_ (some 11) rfl rfl Try.func75 (by kernel_rfl) rfl #[.agg #[.int .i64 a0_0, .slice A0_1 l0_1.length c0_1, .slice A0_2 l0_2.length c0_2]] rfl ga_ ?_; (with_reducible refine (contangoref11_Many.calls k1 a0_0 _ _ l0_1 _ _ l0_2 t320 _ ?side1 ?side2 ?side3 ?side4 A5.out).mono ?_); (case side1 => exact kc_ HR0_1.out); (case side2 => exact HC0_1.out); (case side3 => exact kc_ HR0_2.out); (case side4 => exact HC0_2.out); rintro e w45 ⟨rfl, hb⟩; refine ⟨_, rfl, ?_⟩; have n0_ := Aside0.mk (blk_below BK317.out hb); have n1_ := Aside0.mk (blk_below BK318.out hb); have n2_ := Aside0.mk (blk_below BK319.out hb); have n3_ := Aside0.mk (below_step bs_ hb); clear BK317; clear BK318; clear BK319; clear HB; have BK317 := n0_; have BK318 := n1_; have BK319 := n2_; have HB := n3_; clear n0_ n1_ n2_ n3_; (try clear hb); (try clear hb2); (try clear hk); (try clear hi); have hcz46_0 : w45.cell? ⟨gb317, 0, none⟩ = some (.int .i64 a0_0) := (blk_cell BK317.out 0).trans rfl; have hcz46_1 : w45.cell? ⟨gb317, 1, none⟩ = some (.slice A0_1 l0_1.length c0_1) := (blk_cell BK317.out 1).trans rfl; have hcz46_2 : w45.cell? ⟨gb317, 2, none⟩ = some (.slice A0_2 l0_2.length c0_2) := (blk_cell BK317.out 2).trans rfl; have hfz46_0 := blk_frozen BK317.out 0; have hfz46_1 := blk_frozen BK317.out 1; have hfz46_2 := blk_frozen BK317.out 2) | ((with_reducible refine gate_callee (f := 81) rfl ?_); refine goesL_ (some 17) rfl rfl Try.func81 (by kernel_rfl) rfl #[.agg #[.int .i64 a0_0, .slice A0_1 l0_1.length c0_1, .slice A0_2 l0_2.length c0_2], .int .i64 x6_1] rfl ga_ ?_; (with_reducible refine (contangoref11_Nth.calls k1 a0_0 _ _ l0_1 _ _ l0_2 x6_1 t321 _ ?side1 ?side2 ?side3 ?side4 A7.out).mono ?_); (case side1 => exact kc_ HR0_1.out); (case side2 => exact HC0_1.out); (case side3 => exact kc_ HR0_2.out); (case side4 => exact HC0_2.out); rintro e w47 ⟨v322, rfl, ho0, hb⟩; refine ⟨_, rfl, ?_⟩; have n0_ := Aside0.mk (Kd.R_lower ho0 (below_size bs_)); have n1_ := Aside0.mk (blk_below BK317.out hb); have n2_ := Aside0.mk (blk_below BK318.out hb); have n3_ := Aside0.mk (blk_below BK319.out hb); have n4_ := Aside0.mk (below_step bs_ hb); clear BK317; clear BK318; clear BK319; clear HB; have HO323 := n0_; have BK317 := n1_; have BK318 := n2_; have BK319 := n3_; have HB := n4_; clear n0_ n1_ n2_ n3_ n4_; (try clear hb); (try clear hb2); (try clear hk); (try clear hi); (try clear ho0); have hcz48_0 : w47.cell? ⟨gb317, 0, none⟩ = some (.int .i64 a0_0) := (blk_cell BK317.out 0).trans rfl; have hcz48_1 : w47.cell? ⟨gb317, 1, none⟩ = some (.slice A0_1 l0_1.length c0_1) := (blk_cell BK317.out 1).trans rfl; have hcz48_2 : w47.cell? ⟨gb317, 2, none⟩ = some (.slice A0_2 l0_2.length c0_2) := (blk_cell BK317.out 2).trans rfl; have hfz48_0 := blk_frozen BK317.out 0; have hfz48_1 := blk_frozen BK317.out 1; have hfz48_2 := blk_frozen BK317.out 2; obtain ⟨Ao49, co49, eo49⟩ := Kd.R_slice HO323.out; subst eo49) | ((with_reducible refine gate_callee (f := 26) rfl ?_); refine goesL_ (some 20) rfl rfl Try.func26 (by kernel_rfl) rfl #[.agg #[.int .i64 a0_0, .slice A0_1 l0_1.length c0_1, .slice A0_2 l0_2.length c0_2], .slice Ao49 t321.length co49] rfl ga_ ?_; (with_reducible refine (contangoref11_IsTruth.calls k1 a0_0 _ _ l0_1 _ _ l0_2 _ _ t321 false _ ?side1 ?side2 ?side3 ?side4 ?side5 ?side6 A8.out).mono ?_); (case side1 => exact kc_ HR0_1.out); (case side2 => exact HC0_1.out); (case side3 => exact kc_ HR0_2.out); (case side4 => exact HC0_2.out); (case side5 => repeat (first | exact (Kd.R_reads' HO323.out).2.2 | (with_reducible refine Kd.C_alloc ?_ _) | (with_reducible refine Kd.C_drewN ?_ _) | (with_reducible refine Kd.C_drew ?_))); (case side6 => exact (Kd.R_reads' HO323.out).2.1); rintro e w50 ⟨rfl, hb⟩; refine ⟨_, rfl, ?_⟩; have n0_ := Aside0.mk (Kd.R_below HO323.out hb); have n1_ := Aside0.mk (blk_below BK317.out hb); have n2_ := Aside0.mk (blk_below BK318.out hb); have n3_ := Aside0.mk (blk_below BK319.out hb); have n4_ := Aside0.mk (below_step bs_ hb); clear HO323; clear BK317; clear BK318; clear BK319; clear HB; have HO323 := n0_; have BK317 := n1_; have BK318 := n2_; have BK319 := n3_; have HB := n4_; clear n0_ n1_ n2_ n3_ n4_; (try clear hb); (try clear hb2); (try clear hk); (try clear hi)))
          go_roundg k1
          case measure => have := HK1.out; omega
          case rel => exact ⟨(x5_1), (wrap64 (x6_1 + 1)), (x320000_1), (x320001_1), fy_, fy_, H', ⟨by have := HK1.out; omega⟩, ⟨by exact BK317.out⟩, ⟨by exact BK318.out⟩, ⟨by exact BK319.out⟩, ⟨bs_⟩⟩
      · rw [if_neg c6] at H
        have c6b0 : decide (x6_1 < t320) = false := decide_eq_false c6
        clear c6
        simp only [Option.some.injEq, Prod.mk.injEq] at H
        obtain ⟨rfl, rfl, rfl⟩ := H
        have hnb51 := NB317_318.out
        have hnc51 := NB318_317.out
        have hnb52 := NB317_319.out
        have hnc52 := NB319_317.out
        have hcz53_0 : wr.cell? ⟨gb317, 0, none⟩ = some (.int .i64 a0_0) := (blk_cell BK317.out 0).trans rfl
        have hcz53_1 : wr.cell? ⟨gb317, 1, none⟩ = some (.slice A0_1 l0_1.length c0_1) := (blk_cell BK317.out 1).trans rfl
        have hcz53_2 : wr.cell? ⟨gb317, 2, none⟩ = some (.slice A0_2 l0_2.length c0_2) := (blk_cell BK317.out 2).trans rfl
        have hfz53_0 := blk_frozen BK317.out 0
        have hfz53_1 := blk_frozen BK317.out 1
        have hfz53_2 := blk_frozen BK317.out 2
        go_wp2_with (first | ((with_reducible refine gate_callee (f := 75) rfl ?_); refine goesL_ (some 11) rfl rfl Try.func75 (by kernel_rfl) rfl #[.agg #[.int .i64 a0_0, .slice A0_1 l0_1.length c0_1, .slice A0_2 l0_2.length c0_2]] rfl ga_ ?_; (with_reducible refine (contangoref11_Many.calls k1 a0_0 _ _ l0_1 _ _ l0_2 t320 _ ?side1 ?side2 ?side3 ?side4 A5.out).mono ?_); (case side1 => exact kc_ HR0_1.out); (case side2 => exact HC0_1.out); (case side3 => exact kc_ HR0_2.out); (case side4 => exact HC0_2.out); rintro e w54 ⟨rfl, hb⟩; refine ⟨_, rfl, ?_⟩; have n0_ := Aside0.mk (blk_below BK317.out hb); have n1_ := Aside0.mk (blk_below BK318.out hb); have n2_ := Aside0.mk (blk_below BK319.out hb); have n3_ := Aside0.mk (below_step bs_ hb); clear BK317; clear BK318; clear BK319; clear HB; have BK317 := n0_; have BK318 := n1_; have BK319 := n2_; have HB := n3_; clear n0_ n1_ n2_ n3_; (try clear hb); (try clear hb2); (try clear hk); (try clear hi); have hnb55 := NB319_318.out; have hnc55 := NB318_319.out; have hcz56_0 : w54.cell? ⟨gb319, 0, none⟩ = some (.int .i64 x320000_1) := (blk_cell BK319.out 0).trans rfl; have hcz56_1 : w54.cell? ⟨gb319, 1, none⟩ = some (.int .i64 x320001_1) := (blk_cell BK319.out 1).trans rfl; have hfz56_0 := blk_frozen BK319.out 0; have hfz56_1 := blk_frozen BK319.out 1; have hcz57_0 : w54.cell? ⟨gb318, 0, none⟩ = some (.int .i64 0) := (blk_cell BK318.out 0).trans rfl; have hcz57_1 : w54.cell? ⟨gb318, 1, none⟩ = some (.int .i64 0) := (blk_cell BK318.out 1).trans rfl; have hfz57_0 := blk_frozen BK318.out 0; have hfz57_1 := blk_frozen BK318.out 1))
        refine bodyPost_ret (results_ct rfl _ _ gb318 53 #[.int .i64 x320000_1, .int .i64 x320001_1] (0, 0) _ rfl (by refine blk_put (cs := #[.int .i64 x320000_1, .int .i64 0]) ?_ 1 _ rfl; refine blk_put (cs := #[.int .i64 0, .int .i64 0]) ?_ 0 _ rfl; exact BK318.out) Try.underlying53 rfl (by kernel_rfl)) rfl ?_
        exact ⟨fx_, bs_⟩
end Go.Proofs.Ytgjifkegfbpjkaa.Q
end
