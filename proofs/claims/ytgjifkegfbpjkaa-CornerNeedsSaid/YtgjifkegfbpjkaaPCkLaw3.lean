/- The law CornerNeeds walked. -/
import Derived.Test.YtgjifkegfbpjkaaPCkPlain
import Derived.Test.YtgjifkegfbpjkaaPCkAwake
section
namespace Go.Proofs.Ytgjifkegfbpjkaa.Q
set_option linter.unusedVariables false
set_option linter.unusedSimpArgs false
open Go.RowKit Go.Maps Go.Proofs.YtgjifkegfbpjkaaW.PrintWords Go.Proofs.YtgjifkegfbpjkaaW.PrintLast Go.Proofs.YtgjifkegfbpjkaaW.PrintMore
theorem thin_yes (ex : Int) (hs : List S88) (cs : List S101) (t : List Int) (h1 : hs.length ≤ 9) (h2 : cs.length ≤ 11) (h3 : t.length ≤ 9) : contangolaw11_Thin.f ex hs cs t = some true := by
  unfold contangolaw11_Thin.f; rw [if_pos (by omega), if_pos (by omega), decide_eq_true (by omega)]
theorem thin_no (ex : Int) (hs : List S88) (cs : List S101) (t : List Int) (h : ¬ (hs.length ≤ 9 ∧ cs.length ≤ 11 ∧ t.length ≤ 9)) : contangolaw11_Thin.f ex hs cs t = some false := by
  unfold contangolaw11_Thin.f
  by_cases h1 : (hs.length : Int) ≤ 9
  · rw [if_pos h1]
    by_cases h2 : (cs.length : Int) ≤ 11
    · rw [if_pos h2, decide_eq_false (by omega)]
    · rw [if_neg h2]
  · rw [if_neg h1]
theorem lfault_f (k : Nat) (ex : Int) (hs : List S88) (cs : List S101) (hh : hs.length ≤ 1000) (hc : cs.length ≤ 1000) (hk : hs.length + cs.length + 5 < k) : contangolaw11_fault.f k ex hs cs = some (ck ex (hs.map cvH) (cs.map cvC)) := by
  unfold contangolaw11_fault.f
  rw [fault_f k ex hs cs hh hc hk]; rfl
set_option maxHeartbeats 4000000 in
set_option maxRecDepth 100000 in
theorem law3_thin (ex : Int) (A1 : Option Addr) (c1 : Nat) (hs : List S88) (A2 : Option Addr) (c2 : Nat) (cs : List S101) (A3 : Option Addr) (c3 : Nat) (t : List Int) (w : World) (m1 : Kd.C k88 w A1 hs.length hs) (h1 : hs.length ≤ c1) (m2 : Kd.C k101 w A2 cs.length cs) (h2 : cs.length ≤ c2) (m3 : Kd.C (Kd.int .i64) w A3 t.length t) (h3 : t.length ≤ c3) (ethin : contangolaw11_Thin.f ex hs cs t = some false) :
    Calls Try.prog 3 #[.agg #[.int .i64 ex, .slice A1 hs.length c1, .slice A2 cs.length c2], .slice A3 t.length c3] w fun e w' => e = .returned (.bool true) ∧ Below w.heap.size w w' := by
  replace m1 := Aside0.mk m1
  replace h1 := Aside0.mk h1
  replace m2 := Aside0.mk m2
  replace h2 := Aside0.mk h2
  replace m3 := Aside0.mk m3
  replace h3 := Aside0.mk h3
  replace ethin := Aside0.mk ethin
  have HT : Aside0 (Below w.heap.size w w) := ⟨Below.refl _ _⟩
  go_enter Try.func3, Try.ntmps3
  go_wp2_with fail
  obtain ⟨W1, HW⟩ : ∃ W, Aside0 (w.alloc (.cells #[.int .i64 ex, .slice A1 hs.length c1, .slice A2 cs.length c2] 25) = W) := ⟨_, ⟨rfl⟩⟩
  have b0 : Aside0 (W1.cell? ⟨w.heap.size, 0, none⟩ = some (.int .i64 ex)) := ⟨by rw [← HW.out]; simp⟩
  have b1 : Aside0 (W1.cell? ⟨w.heap.size, 1, none⟩ = some (.slice A1 hs.length c1)) := ⟨by rw [← HW.out]; simp⟩
  have b2 : Aside0 (W1.cell? ⟨w.heap.size, 2, none⟩ = some (.slice A2 cs.length c2)) := ⟨by rw [← HW.out]; simp⟩
  have HB : Aside0 (Below w.heap.size w W1) := ⟨by rw [← HW.out]; exact (Below.refl _ _).alloc (Nat.le_refl _) _⟩
  replace HT := Aside0.mk (HT.out.trans (HB.out.mono HT.out.size))
  replace m1 := Aside0.mk (Kd.C_below m1.out HB.out)
  replace m2 := Aside0.mk (Kd.C_below m2.out HB.out)
  replace m3 := Aside0.mk (Kd.C_below m3.out HB.out)
  clear HB
  rw [HW.out]
  clear HW
  have rb0 := b0.out
  have rb1 := b1.out
  have rb2 := b2.out
  go_wp2_with fail
  clear rb0
  clear rb1
  clear rb2
  refine (contangolaw11_Thin.calls ex A1 c1 hs A2 c2 cs A3 c3 t false W1 m1.out h1.out m2.out h2.out m3.out h3.out ethin.out).mono ?_
  rintro e W2 ⟨rfl, hb⟩
  have HB : Aside0 (Below W1.heap.size W1 W2) := ⟨hb⟩
  replace HT := Aside0.mk (HT.out.trans (HB.out.mono HT.out.size))
  replace m1 := Aside0.mk (Kd.C_below m1.out HB.out)
  replace m2 := Aside0.mk (Kd.C_below m2.out HB.out)
  replace m3 := Aside0.mk (Kd.C_below m3.out HB.out)
  replace b0 := Aside0.mk (pw_cell_below HB.out b0.out)
  replace b1 := Aside0.mk (pw_cell_below HB.out b1.out)
  replace b2 := Aside0.mk (pw_cell_below HB.out b2.out)
  clear HB
  clear hb
  have rb0 := b0.out
  have rb1 := b1.out
  have rb2 := b2.out
  go_wp2_with fail
  clear rb0
  clear rb1
  clear rb2
  refine (contangolaw11_awake.calls true W2 rfl).mono ?_
  rintro e W3 ⟨rfl, hb⟩
  have HB : Aside0 (Below W2.heap.size W2 W3) := ⟨hb⟩
  replace HT := Aside0.mk (HT.out.trans (HB.out.mono HT.out.size))
  replace m1 := Aside0.mk (Kd.C_below m1.out HB.out)
  replace m2 := Aside0.mk (Kd.C_below m2.out HB.out)
  replace m3 := Aside0.mk (Kd.C_below m3.out HB.out)
  replace b0 := Aside0.mk (pw_cell_below HB.out b0.out)
  replace b1 := Aside0.mk (pw_cell_below HB.out b1.out)
  replace b2 := Aside0.mk (pw_cell_below HB.out b2.out)
  clear HB
  clear hb
  have rb0 := b0.out
  have rb1 := b1.out
  have rb2 := b2.out
  go_wp2_with fail
  clear rb0
  clear rb1
  clear rb2
  go_ret
  exact ⟨rfl, HT.out⟩
set_option maxHeartbeats 4000000 in
set_option maxRecDepth 100000 in
theorem law3_bad (ex : Int) (A1 : Option Addr) (c1 : Nat) (hs : List S88) (A2 : Option Addr) (c2 : Nat) (cs : List S101) (A3 : Option Addr) (c3 : Nat) (t : List Int) (H : List S73) (C : List S75) (k0 : Int) (hk0 : k0 ≠ 0) (w : World) (m1 : Kd.C k88 w A1 hs.length hs) (h1 : hs.length ≤ c1) (m2 : Kd.C k101 w A2 cs.length cs) (h2 : cs.length ≤ c2) (m3 : Kd.C (Kd.int .i64) w A3 t.length t) (h3 : t.length ≤ c3) (ethin : contangolaw11_Thin.f ex hs cs t = some true) (em : contangolaw11_Market.f 3000 ex hs cs = some (ex, H, C)) (el : contangolaw11_list.f t = some t) (en : corner_Needs.f 3000 ex H C t = some ([], [], k0)) (ep : corner_ProveTruth.f 3000 ex H C t = some false) (ef : contangolaw11_fault.f 3000 ex hs cs = some k0) (ec : corner_CheckMarket.f ex H C = some k0) :
    Calls Try.prog 3 #[.agg #[.int .i64 ex, .slice A1 hs.length c1, .slice A2 cs.length c2], .slice A3 t.length c3] w fun e w' => e = .returned (.bool true) ∧ Below w.heap.size w w' := by
  replace m1 := Aside0.mk m1
  replace h1 := Aside0.mk h1
  replace m2 := Aside0.mk m2
  replace h2 := Aside0.mk h2
  replace m3 := Aside0.mk m3
  replace h3 := Aside0.mk h3
  replace ethin := Aside0.mk ethin
  replace em := Aside0.mk em
  replace el := Aside0.mk el
  replace en := Aside0.mk en
  replace ep := Aside0.mk ep
  replace ef := Aside0.mk ef
  replace ec := Aside0.mk ec
  have HT : Aside0 (Below w.heap.size w w) := ⟨Below.refl _ _⟩
  go_enter Try.func3, Try.ntmps3
  go_wp2_with fail
  have d1 : (k0 == 0) = false := beq_eq_false_iff_ne.2 hk0
  have d2 : decide (k0 = 0) = false := decide_eq_false hk0
  obtain ⟨W1, HW⟩ : ∃ W, Aside0 (w.alloc (.cells #[.int .i64 ex, .slice A1 hs.length c1, .slice A2 cs.length c2] 25) = W) := ⟨_, ⟨rfl⟩⟩
  have b0 : Aside0 (W1.cell? ⟨w.heap.size, 0, none⟩ = some (.int .i64 ex)) := ⟨by rw [← HW.out]; simp⟩
  have b1 : Aside0 (W1.cell? ⟨w.heap.size, 1, none⟩ = some (.slice A1 hs.length c1)) := ⟨by rw [← HW.out]; simp⟩
  have b2 : Aside0 (W1.cell? ⟨w.heap.size, 2, none⟩ = some (.slice A2 cs.length c2)) := ⟨by rw [← HW.out]; simp⟩
  have HB : Aside0 (Below w.heap.size w W1) := ⟨by rw [← HW.out]; exact (Below.refl _ _).alloc (Nat.le_refl _) _⟩
  replace HT := Aside0.mk (HT.out.trans (HB.out.mono HT.out.size))
  replace m1 := Aside0.mk (Kd.C_below m1.out HB.out)
  replace m2 := Aside0.mk (Kd.C_below m2.out HB.out)
  replace m3 := Aside0.mk (Kd.C_below m3.out HB.out)
  clear HB
  rw [HW.out]
  clear HW
  have rb0 := b0.out
  have rb1 := b1.out
  have rb2 := b2.out
  go_wp2_with fail
  clear rb0
  clear rb1
  clear rb2
  refine (contangolaw11_Thin.calls ex A1 c1 hs A2 c2 cs A3 c3 t true W1 m1.out h1.out m2.out h2.out m3.out h3.out ethin.out).mono ?_
  rintro e W2 ⟨rfl, hb⟩
  have HB : Aside0 (Below W1.heap.size W1 W2) := ⟨hb⟩
  replace HT := Aside0.mk (HT.out.trans (HB.out.mono HT.out.size))
  replace m1 := Aside0.mk (Kd.C_below m1.out HB.out)
  replace m2 := Aside0.mk (Kd.C_below m2.out HB.out)
  replace m3 := Aside0.mk (Kd.C_below m3.out HB.out)
  replace b0 := Aside0.mk (pw_cell_below HB.out b0.out)
  replace b1 := Aside0.mk (pw_cell_below HB.out b1.out)
  replace b2 := Aside0.mk (pw_cell_below HB.out b2.out)
  clear HB
  clear hb
  have rb0 := b0.out
  have rb1 := b1.out
  have rb2 := b2.out
  go_wp2_with fail
  clear rb0
  clear rb1
  clear rb2
  refine (contangolaw11_Market.calls 3000 ex A1 c1 hs A2 c2 cs ex H C W2 m1.out h1.out m2.out h2.out em.out).mono ?_
  rintro e W3 ⟨vh, vc, rfl, hrh, hrc, hb⟩
  have HB : Aside0 (Below W2.heap.size W2 W3) := ⟨hb⟩
  replace HT := Aside0.mk (HT.out.trans (HB.out.mono HT.out.size))
  replace m1 := Aside0.mk (Kd.C_below m1.out HB.out)
  replace m2 := Aside0.mk (Kd.C_below m2.out HB.out)
  replace m3 := Aside0.mk (Kd.C_below m3.out HB.out)
  replace b0 := Aside0.mk (pw_cell_below HB.out b0.out)
  replace b1 := Aside0.mk (pw_cell_below HB.out b1.out)
  replace b2 := Aside0.mk (pw_cell_below HB.out b2.out)
  clear HB
  obtain ⟨Ah, ch, rfl, hc, hC⟩ := Kd.R_reads hrh
  have Mh := Aside0.mk hC
  have Lh := Aside0.mk hc
  clear hc hC hrh
  obtain ⟨Ac, cc, rfl, hc, hC⟩ := Kd.R_reads hrc
  have Mc := Aside0.mk hC
  have Lc := Aside0.mk hc
  clear hc hC hrc
  clear hb
  have rb0 := b0.out
  have rb1 := b1.out
  have rb2 := b2.out
  go_wp2_with fail
  clear rb0
  clear rb1
  clear rb2
  refine (contangolaw11_list.calls A3 c3 t t W3 m3.out h3.out el.out).mono ?_
  rintro e W4 ⟨vt, rfl, hrt, hb⟩
  have HB : Aside0 (Below W3.heap.size W3 W4) := ⟨hb⟩
  replace HT := Aside0.mk (HT.out.trans (HB.out.mono HT.out.size))
  replace m1 := Aside0.mk (Kd.C_below m1.out HB.out)
  replace m2 := Aside0.mk (Kd.C_below m2.out HB.out)
  replace m3 := Aside0.mk (Kd.C_below m3.out HB.out)
  replace b0 := Aside0.mk (pw_cell_below HB.out b0.out)
  replace b1 := Aside0.mk (pw_cell_below HB.out b1.out)
  replace b2 := Aside0.mk (pw_cell_below HB.out b2.out)
  replace Mh := Aside0.mk (Kd.C_below Mh.out HB.out)
  replace Mc := Aside0.mk (Kd.C_below Mc.out HB.out)
  clear HB
  obtain ⟨At, ct, rfl, hc, hC⟩ := Kd.R_reads hrt
  have Mt := Aside0.mk hC
  have Lt := Aside0.mk hc
  clear hc hC hrt
  clear hb
  have rb0 := b0.out
  have rb1 := b1.out
  have rb2 := b2.out
  go_wp2_with fail
  clear rb0
  clear rb1
  clear rb2
  refine (corner_Needs.calls 3000 ex Ah ch H Ac cc C At ct t [] [] k0 W4 Mh.out Lh.out Mc.out Lc.out Mt.out Lt.out en.out).mono ?_
  rintro e W5 ⟨vn, vq, rfl, hrn, hrq, hb⟩
  have HB : Aside0 (Below W4.heap.size W4 W5) := ⟨hb⟩
  replace HT := Aside0.mk (HT.out.trans (HB.out.mono HT.out.size))
  replace m1 := Aside0.mk (Kd.C_below m1.out HB.out)
  replace m2 := Aside0.mk (Kd.C_below m2.out HB.out)
  replace m3 := Aside0.mk (Kd.C_below m3.out HB.out)
  replace b0 := Aside0.mk (pw_cell_below HB.out b0.out)
  replace b1 := Aside0.mk (pw_cell_below HB.out b1.out)
  replace b2 := Aside0.mk (pw_cell_below HB.out b2.out)
  replace Mh := Aside0.mk (Kd.C_below Mh.out HB.out)
  replace Mc := Aside0.mk (Kd.C_below Mc.out HB.out)
  replace Mt := Aside0.mk (Kd.C_below Mt.out HB.out)
  clear HB
  obtain ⟨An, cn, rfl, hc, hC⟩ := Kd.R_reads hrn
  have Mn := Aside0.mk hC
  have Ln := Aside0.mk hc
  clear hc hC hrn
  obtain ⟨Aq, cq, rfl, hc, hC⟩ := Kd.R_reads hrq
  have Mq := Aside0.mk hC
  have Lq := Aside0.mk hc
  clear hc hC hrq
  clear hb
  have rb0 := b0.out
  have rb1 := b1.out
  have rb2 := b2.out
  go_wp2_with fail
  clear rb0
  clear rb1
  clear rb2
  clear Mh Mc Mt
  refine (contangolaw11_Market.calls 3000 ex A1 c1 hs A2 c2 cs ex H C W5 m1.out h1.out m2.out h2.out em.out).mono ?_
  rintro e W6 ⟨vh, vc, rfl, hrh, hrc, hb⟩
  have HB : Aside0 (Below W5.heap.size W5 W6) := ⟨hb⟩
  replace HT := Aside0.mk (HT.out.trans (HB.out.mono HT.out.size))
  replace m1 := Aside0.mk (Kd.C_below m1.out HB.out)
  replace m2 := Aside0.mk (Kd.C_below m2.out HB.out)
  replace m3 := Aside0.mk (Kd.C_below m3.out HB.out)
  replace b0 := Aside0.mk (pw_cell_below HB.out b0.out)
  replace b1 := Aside0.mk (pw_cell_below HB.out b1.out)
  replace b2 := Aside0.mk (pw_cell_below HB.out b2.out)
  replace Mn := Aside0.mk (Kd.C_below Mn.out HB.out)
  replace Mq := Aside0.mk (Kd.C_below Mq.out HB.out)
  clear HB
  obtain ⟨Ah, ch, rfl, hc, hC⟩ := Kd.R_reads hrh
  have Mh := Aside0.mk hC
  have Lh := Aside0.mk hc
  clear hc hC hrh
  obtain ⟨Ac, cc, rfl, hc, hC⟩ := Kd.R_reads hrc
  have Mc := Aside0.mk hC
  have Lc := Aside0.mk hc
  clear hc hC hrc
  clear hb
  have rb0 := b0.out
  have rb1 := b1.out
  have rb2 := b2.out
  go_wp2_with fail
  clear rb0
  clear rb1
  clear rb2
  refine (contangolaw11_list.calls A3 c3 t t W6 m3.out h3.out el.out).mono ?_
  rintro e W7 ⟨vt, rfl, hrt, hb⟩
  have HB : Aside0 (Below W6.heap.size W6 W7) := ⟨hb⟩
  replace HT := Aside0.mk (HT.out.trans (HB.out.mono HT.out.size))
  replace m1 := Aside0.mk (Kd.C_below m1.out HB.out)
  replace m2 := Aside0.mk (Kd.C_below m2.out HB.out)
  replace m3 := Aside0.mk (Kd.C_below m3.out HB.out)
  replace b0 := Aside0.mk (pw_cell_below HB.out b0.out)
  replace b1 := Aside0.mk (pw_cell_below HB.out b1.out)
  replace b2 := Aside0.mk (pw_cell_below HB.out b2.out)
  replace Mn := Aside0.mk (Kd.C_below Mn.out HB.out)
  replace Mq := Aside0.mk (Kd.C_below Mq.out HB.out)
  replace Mh := Aside0.mk (Kd.C_below Mh.out HB.out)
  replace Mc := Aside0.mk (Kd.C_below Mc.out HB.out)
  clear HB
  obtain ⟨At, ct, rfl, hc, hC⟩ := Kd.R_reads hrt
  have Mt := Aside0.mk hC
  have Lt := Aside0.mk hc
  clear hc hC hrt
  clear hb
  have rb0 := b0.out
  have rb1 := b1.out
  have rb2 := b2.out
  go_wp2_with fail
  clear rb0
  clear rb1
  clear rb2
  refine (corner_ProveTruth.calls 3000 ex Ah ch H Ac cc C At ct t false W7 Mh.out Lh.out Mc.out Lc.out Mt.out Lt.out ep.out).mono ?_
  rintro e W8 ⟨rfl, hb⟩
  have HB : Aside0 (Below W7.heap.size W7 W8) := ⟨hb⟩
  replace HT := Aside0.mk (HT.out.trans (HB.out.mono HT.out.size))
  replace m1 := Aside0.mk (Kd.C_below m1.out HB.out)
  replace m2 := Aside0.mk (Kd.C_below m2.out HB.out)
  replace m3 := Aside0.mk (Kd.C_below m3.out HB.out)
  replace b0 := Aside0.mk (pw_cell_below HB.out b0.out)
  replace b1 := Aside0.mk (pw_cell_below HB.out b1.out)
  replace b2 := Aside0.mk (pw_cell_below HB.out b2.out)
  replace Mn := Aside0.mk (Kd.C_below Mn.out HB.out)
  replace Mq := Aside0.mk (Kd.C_below Mq.out HB.out)
  replace Mh := Aside0.mk (Kd.C_below Mh.out HB.out)
  replace Mc := Aside0.mk (Kd.C_below Mc.out HB.out)
  replace Mt := Aside0.mk (Kd.C_below Mt.out HB.out)
  clear HB
  clear hb
  have rb0 := b0.out
  have rb1 := b1.out
  have rb2 := b2.out
  go_wp2_with fail
  clear rb0
  clear rb1
  clear rb2
  clear Mh Mc Mt
  refine (contangolaw11_fault.calls 3000 ex A1 c1 hs A2 c2 cs k0 W8 m1.out h1.out m2.out h2.out ef.out).mono ?_
  rintro e W9 ⟨rfl, hb⟩
  have HB : Aside0 (Below W8.heap.size W8 W9) := ⟨hb⟩
  replace HT := Aside0.mk (HT.out.trans (HB.out.mono HT.out.size))
  replace m1 := Aside0.mk (Kd.C_below m1.out HB.out)
  replace m2 := Aside0.mk (Kd.C_below m2.out HB.out)
  replace m3 := Aside0.mk (Kd.C_below m3.out HB.out)
  replace b0 := Aside0.mk (pw_cell_below HB.out b0.out)
  replace b1 := Aside0.mk (pw_cell_below HB.out b1.out)
  replace b2 := Aside0.mk (pw_cell_below HB.out b2.out)
  replace Mn := Aside0.mk (Kd.C_below Mn.out HB.out)
  replace Mq := Aside0.mk (Kd.C_below Mq.out HB.out)
  clear HB
  clear hb
  have rb0 := b0.out
  have rb1 := b1.out
  have rb2 := b2.out
  go_wp2_with fail
  clear rb0
  clear rb1
  clear rb2
  refine (contangolaw11_Market.calls 3000 ex A1 c1 hs A2 c2 cs ex H C W9 m1.out h1.out m2.out h2.out em.out).mono ?_
  rintro e W10 ⟨vh, vc, rfl, hrh, hrc, hb⟩
  have HB : Aside0 (Below W9.heap.size W9 W10) := ⟨hb⟩
  replace HT := Aside0.mk (HT.out.trans (HB.out.mono HT.out.size))
  replace m1 := Aside0.mk (Kd.C_below m1.out HB.out)
  replace m2 := Aside0.mk (Kd.C_below m2.out HB.out)
  replace m3 := Aside0.mk (Kd.C_below m3.out HB.out)
  replace b0 := Aside0.mk (pw_cell_below HB.out b0.out)
  replace b1 := Aside0.mk (pw_cell_below HB.out b1.out)
  replace b2 := Aside0.mk (pw_cell_below HB.out b2.out)
  replace Mn := Aside0.mk (Kd.C_below Mn.out HB.out)
  replace Mq := Aside0.mk (Kd.C_below Mq.out HB.out)
  clear HB
  obtain ⟨Ah, ch, rfl, hc, hC⟩ := Kd.R_reads hrh
  have Mh := Aside0.mk hC
  have Lh := Aside0.mk hc
  clear hc hC hrh
  obtain ⟨Ac, cc, rfl, hc, hC⟩ := Kd.R_reads hrc
  have Mc := Aside0.mk hC
  have Lc := Aside0.mk hc
  clear hc hC hrc
  clear hb
  have rb0 := b0.out
  have rb1 := b1.out
  have rb2 := b2.out
  go_wp2_with fail
  clear rb0
  clear rb1
  clear rb2
  refine (corner_CheckMarket.calls ex Ah ch H Ac cc C k0 W10 Mh.out Lh.out Mc.out Lc.out ec.out).mono ?_
  rintro e W11 ⟨rfl, hb⟩
  have HB : Aside0 (Below W10.heap.size W10 W11) := ⟨hb⟩
  replace HT := Aside0.mk (HT.out.trans (HB.out.mono HT.out.size))
  replace m1 := Aside0.mk (Kd.C_below m1.out HB.out)
  replace m2 := Aside0.mk (Kd.C_below m2.out HB.out)
  replace m3 := Aside0.mk (Kd.C_below m3.out HB.out)
  replace b0 := Aside0.mk (pw_cell_below HB.out b0.out)
  replace b1 := Aside0.mk (pw_cell_below HB.out b1.out)
  replace b2 := Aside0.mk (pw_cell_below HB.out b2.out)
  replace Mn := Aside0.mk (Kd.C_below Mn.out HB.out)
  replace Mq := Aside0.mk (Kd.C_below Mq.out HB.out)
  replace Mh := Aside0.mk (Kd.C_below Mh.out HB.out)
  replace Mc := Aside0.mk (Kd.C_below Mc.out HB.out)
  clear HB
  clear hb
  have rb0 := b0.out
  have rb1 := b1.out
  have rb2 := b2.out
  go_wp2_with fail
  clear rb0
  clear rb1
  clear rb2
  clear Mh Mc
  refine (contangolaw11_awake.calls true W11 rfl).mono ?_
  rintro e W12 ⟨rfl, hb⟩
  have HB : Aside0 (Below W11.heap.size W11 W12) := ⟨hb⟩
  replace HT := Aside0.mk (HT.out.trans (HB.out.mono HT.out.size))
  replace m1 := Aside0.mk (Kd.C_below m1.out HB.out)
  replace m2 := Aside0.mk (Kd.C_below m2.out HB.out)
  replace m3 := Aside0.mk (Kd.C_below m3.out HB.out)
  replace b0 := Aside0.mk (pw_cell_below HB.out b0.out)
  replace b1 := Aside0.mk (pw_cell_below HB.out b1.out)
  replace b2 := Aside0.mk (pw_cell_below HB.out b2.out)
  replace Mn := Aside0.mk (Kd.C_below Mn.out HB.out)
  replace Mq := Aside0.mk (Kd.C_below Mq.out HB.out)
  clear HB
  clear hb
  have rb0 := b0.out
  have rb1 := b1.out
  have rb2 := b2.out
  go_wp2_with fail
  clear rb0
  clear rb1
  clear rb2
  go_ret
  exact ⟨rfl, HT.out⟩
set_option maxHeartbeats 4000000 in
set_option maxRecDepth 100000 in
theorem law3_no (ex : Int) (A1 : Option Addr) (c1 : Nat) (hs : List S88) (A2 : Option Addr) (c2 : Nat) (cs : List S101) (A3 : Option Addr) (c3 : Nat) (t : List Int) (H : List S73) (C : List S75) (w : World) (m1 : Kd.C k88 w A1 hs.length hs) (h1 : hs.length ≤ c1) (m2 : Kd.C k101 w A2 cs.length cs) (h2 : cs.length ≤ c2) (m3 : Kd.C (Kd.int .i64) w A3 t.length t) (h3 : t.length ≤ c3) (ethin : contangolaw11_Thin.f ex hs cs t = some true) (em : contangolaw11_Market.f 3000 ex hs cs = some (ex, H, C)) (el : contangolaw11_list.f t = some t) (en : corner_Needs.f 3000 ex H C t = some ([], [], 2)) (ep : corner_ProveTruth.f 3000 ex H C t = some false) (ef : contangolaw11_fault.f 3000 ex hs cs = some 0) (ec : corner_CheckMarket.f ex H C = some 0) (ei : contangoref11_IsTruth.f 3000 ex hs cs t = some false) :
    Calls Try.prog 3 #[.agg #[.int .i64 ex, .slice A1 hs.length c1, .slice A2 cs.length c2], .slice A3 t.length c3] w fun e w' => e = .returned (.bool true) ∧ Below w.heap.size w w' := by
  replace m1 := Aside0.mk m1
  replace h1 := Aside0.mk h1
  replace m2 := Aside0.mk m2
  replace h2 := Aside0.mk h2
  replace m3 := Aside0.mk m3
  replace h3 := Aside0.mk h3
  replace ethin := Aside0.mk ethin
  replace em := Aside0.mk em
  replace el := Aside0.mk el
  replace en := Aside0.mk en
  replace ep := Aside0.mk ep
  replace ef := Aside0.mk ef
  replace ec := Aside0.mk ec
  replace ei := Aside0.mk ei
  have HT : Aside0 (Below w.heap.size w w) := ⟨Below.refl _ _⟩
  go_enter Try.func3, Try.ntmps3
  go_wp2_with fail
  obtain ⟨W1, HW⟩ : ∃ W, Aside0 (w.alloc (.cells #[.int .i64 ex, .slice A1 hs.length c1, .slice A2 cs.length c2] 25) = W) := ⟨_, ⟨rfl⟩⟩
  have b0 : Aside0 (W1.cell? ⟨w.heap.size, 0, none⟩ = some (.int .i64 ex)) := ⟨by rw [← HW.out]; simp⟩
  have b1 : Aside0 (W1.cell? ⟨w.heap.size, 1, none⟩ = some (.slice A1 hs.length c1)) := ⟨by rw [← HW.out]; simp⟩
  have b2 : Aside0 (W1.cell? ⟨w.heap.size, 2, none⟩ = some (.slice A2 cs.length c2)) := ⟨by rw [← HW.out]; simp⟩
  have HB : Aside0 (Below w.heap.size w W1) := ⟨by rw [← HW.out]; exact (Below.refl _ _).alloc (Nat.le_refl _) _⟩
  replace HT := Aside0.mk (HT.out.trans (HB.out.mono HT.out.size))
  replace m1 := Aside0.mk (Kd.C_below m1.out HB.out)
  replace m2 := Aside0.mk (Kd.C_below m2.out HB.out)
  replace m3 := Aside0.mk (Kd.C_below m3.out HB.out)
  clear HB
  rw [HW.out]
  clear HW
  have rb0 := b0.out
  have rb1 := b1.out
  have rb2 := b2.out
  go_wp2_with fail
  clear rb0
  clear rb1
  clear rb2
  refine (contangolaw11_Thin.calls ex A1 c1 hs A2 c2 cs A3 c3 t true W1 m1.out h1.out m2.out h2.out m3.out h3.out ethin.out).mono ?_
  rintro e W2 ⟨rfl, hb⟩
  have HB : Aside0 (Below W1.heap.size W1 W2) := ⟨hb⟩
  replace HT := Aside0.mk (HT.out.trans (HB.out.mono HT.out.size))
  replace m1 := Aside0.mk (Kd.C_below m1.out HB.out)
  replace m2 := Aside0.mk (Kd.C_below m2.out HB.out)
  replace m3 := Aside0.mk (Kd.C_below m3.out HB.out)
  replace b0 := Aside0.mk (pw_cell_below HB.out b0.out)
  replace b1 := Aside0.mk (pw_cell_below HB.out b1.out)
  replace b2 := Aside0.mk (pw_cell_below HB.out b2.out)
  clear HB
  clear hb
  have rb0 := b0.out
  have rb1 := b1.out
  have rb2 := b2.out
  go_wp2_with fail
  clear rb0
  clear rb1
  clear rb2
  refine (contangolaw11_Market.calls 3000 ex A1 c1 hs A2 c2 cs ex H C W2 m1.out h1.out m2.out h2.out em.out).mono ?_
  rintro e W3 ⟨vh, vc, rfl, hrh, hrc, hb⟩
  have HB : Aside0 (Below W2.heap.size W2 W3) := ⟨hb⟩
  replace HT := Aside0.mk (HT.out.trans (HB.out.mono HT.out.size))
  replace m1 := Aside0.mk (Kd.C_below m1.out HB.out)
  replace m2 := Aside0.mk (Kd.C_below m2.out HB.out)
  replace m3 := Aside0.mk (Kd.C_below m3.out HB.out)
  replace b0 := Aside0.mk (pw_cell_below HB.out b0.out)
  replace b1 := Aside0.mk (pw_cell_below HB.out b1.out)
  replace b2 := Aside0.mk (pw_cell_below HB.out b2.out)
  clear HB
  obtain ⟨Ah, ch, rfl, hc, hC⟩ := Kd.R_reads hrh
  have Mh := Aside0.mk hC
  have Lh := Aside0.mk hc
  clear hc hC hrh
  obtain ⟨Ac, cc, rfl, hc, hC⟩ := Kd.R_reads hrc
  have Mc := Aside0.mk hC
  have Lc := Aside0.mk hc
  clear hc hC hrc
  clear hb
  have rb0 := b0.out
  have rb1 := b1.out
  have rb2 := b2.out
  go_wp2_with fail
  clear rb0
  clear rb1
  clear rb2
  refine (contangolaw11_list.calls A3 c3 t t W3 m3.out h3.out el.out).mono ?_
  rintro e W4 ⟨vt, rfl, hrt, hb⟩
  have HB : Aside0 (Below W3.heap.size W3 W4) := ⟨hb⟩
  replace HT := Aside0.mk (HT.out.trans (HB.out.mono HT.out.size))
  replace m1 := Aside0.mk (Kd.C_below m1.out HB.out)
  replace m2 := Aside0.mk (Kd.C_below m2.out HB.out)
  replace m3 := Aside0.mk (Kd.C_below m3.out HB.out)
  replace b0 := Aside0.mk (pw_cell_below HB.out b0.out)
  replace b1 := Aside0.mk (pw_cell_below HB.out b1.out)
  replace b2 := Aside0.mk (pw_cell_below HB.out b2.out)
  replace Mh := Aside0.mk (Kd.C_below Mh.out HB.out)
  replace Mc := Aside0.mk (Kd.C_below Mc.out HB.out)
  clear HB
  obtain ⟨At, ct, rfl, hc, hC⟩ := Kd.R_reads hrt
  have Mt := Aside0.mk hC
  have Lt := Aside0.mk hc
  clear hc hC hrt
  clear hb
  have rb0 := b0.out
  have rb1 := b1.out
  have rb2 := b2.out
  go_wp2_with fail
  clear rb0
  clear rb1
  clear rb2
  refine (corner_Needs.calls 3000 ex Ah ch H Ac cc C At ct t [] [] 2 W4 Mh.out Lh.out Mc.out Lc.out Mt.out Lt.out en.out).mono ?_
  rintro e W5 ⟨vn, vq, rfl, hrn, hrq, hb⟩
  have HB : Aside0 (Below W4.heap.size W4 W5) := ⟨hb⟩
  replace HT := Aside0.mk (HT.out.trans (HB.out.mono HT.out.size))
  replace m1 := Aside0.mk (Kd.C_below m1.out HB.out)
  replace m2 := Aside0.mk (Kd.C_below m2.out HB.out)
  replace m3 := Aside0.mk (Kd.C_below m3.out HB.out)
  replace b0 := Aside0.mk (pw_cell_below HB.out b0.out)
  replace b1 := Aside0.mk (pw_cell_below HB.out b1.out)
  replace b2 := Aside0.mk (pw_cell_below HB.out b2.out)
  replace Mh := Aside0.mk (Kd.C_below Mh.out HB.out)
  replace Mc := Aside0.mk (Kd.C_below Mc.out HB.out)
  replace Mt := Aside0.mk (Kd.C_below Mt.out HB.out)
  clear HB
  obtain ⟨An, cn, rfl, hc, hC⟩ := Kd.R_reads hrn
  have Mn := Aside0.mk hC
  have Ln := Aside0.mk hc
  clear hc hC hrn
  obtain ⟨Aq, cq, rfl, hc, hC⟩ := Kd.R_reads hrq
  have Mq := Aside0.mk hC
  have Lq := Aside0.mk hc
  clear hc hC hrq
  clear hb
  have rb0 := b0.out
  have rb1 := b1.out
  have rb2 := b2.out
  go_wp2_with fail
  clear rb0
  clear rb1
  clear rb2
  clear Mh Mc Mt
  refine (contangolaw11_Market.calls 3000 ex A1 c1 hs A2 c2 cs ex H C W5 m1.out h1.out m2.out h2.out em.out).mono ?_
  rintro e W6 ⟨vh, vc, rfl, hrh, hrc, hb⟩
  have HB : Aside0 (Below W5.heap.size W5 W6) := ⟨hb⟩
  replace HT := Aside0.mk (HT.out.trans (HB.out.mono HT.out.size))
  replace m1 := Aside0.mk (Kd.C_below m1.out HB.out)
  replace m2 := Aside0.mk (Kd.C_below m2.out HB.out)
  replace m3 := Aside0.mk (Kd.C_below m3.out HB.out)
  replace b0 := Aside0.mk (pw_cell_below HB.out b0.out)
  replace b1 := Aside0.mk (pw_cell_below HB.out b1.out)
  replace b2 := Aside0.mk (pw_cell_below HB.out b2.out)
  replace Mn := Aside0.mk (Kd.C_below Mn.out HB.out)
  replace Mq := Aside0.mk (Kd.C_below Mq.out HB.out)
  clear HB
  obtain ⟨Ah, ch, rfl, hc, hC⟩ := Kd.R_reads hrh
  have Mh := Aside0.mk hC
  have Lh := Aside0.mk hc
  clear hc hC hrh
  obtain ⟨Ac, cc, rfl, hc, hC⟩ := Kd.R_reads hrc
  have Mc := Aside0.mk hC
  have Lc := Aside0.mk hc
  clear hc hC hrc
  clear hb
  have rb0 := b0.out
  have rb1 := b1.out
  have rb2 := b2.out
  go_wp2_with fail
  clear rb0
  clear rb1
  clear rb2
  refine (contangolaw11_list.calls A3 c3 t t W6 m3.out h3.out el.out).mono ?_
  rintro e W7 ⟨vt, rfl, hrt, hb⟩
  have HB : Aside0 (Below W6.heap.size W6 W7) := ⟨hb⟩
  replace HT := Aside0.mk (HT.out.trans (HB.out.mono HT.out.size))
  replace m1 := Aside0.mk (Kd.C_below m1.out HB.out)
  replace m2 := Aside0.mk (Kd.C_below m2.out HB.out)
  replace m3 := Aside0.mk (Kd.C_below m3.out HB.out)
  replace b0 := Aside0.mk (pw_cell_below HB.out b0.out)
  replace b1 := Aside0.mk (pw_cell_below HB.out b1.out)
  replace b2 := Aside0.mk (pw_cell_below HB.out b2.out)
  replace Mn := Aside0.mk (Kd.C_below Mn.out HB.out)
  replace Mq := Aside0.mk (Kd.C_below Mq.out HB.out)
  replace Mh := Aside0.mk (Kd.C_below Mh.out HB.out)
  replace Mc := Aside0.mk (Kd.C_below Mc.out HB.out)
  clear HB
  obtain ⟨At, ct, rfl, hc, hC⟩ := Kd.R_reads hrt
  have Mt := Aside0.mk hC
  have Lt := Aside0.mk hc
  clear hc hC hrt
  clear hb
  have rb0 := b0.out
  have rb1 := b1.out
  have rb2 := b2.out
  go_wp2_with fail
  clear rb0
  clear rb1
  clear rb2
  refine (corner_ProveTruth.calls 3000 ex Ah ch H Ac cc C At ct t false W7 Mh.out Lh.out Mc.out Lc.out Mt.out Lt.out ep.out).mono ?_
  rintro e W8 ⟨rfl, hb⟩
  have HB : Aside0 (Below W7.heap.size W7 W8) := ⟨hb⟩
  replace HT := Aside0.mk (HT.out.trans (HB.out.mono HT.out.size))
  replace m1 := Aside0.mk (Kd.C_below m1.out HB.out)
  replace m2 := Aside0.mk (Kd.C_below m2.out HB.out)
  replace m3 := Aside0.mk (Kd.C_below m3.out HB.out)
  replace b0 := Aside0.mk (pw_cell_below HB.out b0.out)
  replace b1 := Aside0.mk (pw_cell_below HB.out b1.out)
  replace b2 := Aside0.mk (pw_cell_below HB.out b2.out)
  replace Mn := Aside0.mk (Kd.C_below Mn.out HB.out)
  replace Mq := Aside0.mk (Kd.C_below Mq.out HB.out)
  replace Mh := Aside0.mk (Kd.C_below Mh.out HB.out)
  replace Mc := Aside0.mk (Kd.C_below Mc.out HB.out)
  replace Mt := Aside0.mk (Kd.C_below Mt.out HB.out)
  clear HB
  clear hb
  have rb0 := b0.out
  have rb1 := b1.out
  have rb2 := b2.out
  go_wp2_with fail
  clear rb0
  clear rb1
  clear rb2
  clear Mh Mc Mt
  refine (contangolaw11_fault.calls 3000 ex A1 c1 hs A2 c2 cs 0 W8 m1.out h1.out m2.out h2.out ef.out).mono ?_
  rintro e W9 ⟨rfl, hb⟩
  have HB : Aside0 (Below W8.heap.size W8 W9) := ⟨hb⟩
  replace HT := Aside0.mk (HT.out.trans (HB.out.mono HT.out.size))
  replace m1 := Aside0.mk (Kd.C_below m1.out HB.out)
  replace m2 := Aside0.mk (Kd.C_below m2.out HB.out)
  replace m3 := Aside0.mk (Kd.C_below m3.out HB.out)
  replace b0 := Aside0.mk (pw_cell_below HB.out b0.out)
  replace b1 := Aside0.mk (pw_cell_below HB.out b1.out)
  replace b2 := Aside0.mk (pw_cell_below HB.out b2.out)
  replace Mn := Aside0.mk (Kd.C_below Mn.out HB.out)
  replace Mq := Aside0.mk (Kd.C_below Mq.out HB.out)
  clear HB
  clear hb
  have rb0 := b0.out
  have rb1 := b1.out
  have rb2 := b2.out
  go_wp2_with fail
  clear rb0
  clear rb1
  clear rb2
  refine (contangolaw11_Market.calls 3000 ex A1 c1 hs A2 c2 cs ex H C W9 m1.out h1.out m2.out h2.out em.out).mono ?_
  rintro e W10 ⟨vh, vc, rfl, hrh, hrc, hb⟩
  have HB : Aside0 (Below W9.heap.size W9 W10) := ⟨hb⟩
  replace HT := Aside0.mk (HT.out.trans (HB.out.mono HT.out.size))
  replace m1 := Aside0.mk (Kd.C_below m1.out HB.out)
  replace m2 := Aside0.mk (Kd.C_below m2.out HB.out)
  replace m3 := Aside0.mk (Kd.C_below m3.out HB.out)
  replace b0 := Aside0.mk (pw_cell_below HB.out b0.out)
  replace b1 := Aside0.mk (pw_cell_below HB.out b1.out)
  replace b2 := Aside0.mk (pw_cell_below HB.out b2.out)
  replace Mn := Aside0.mk (Kd.C_below Mn.out HB.out)
  replace Mq := Aside0.mk (Kd.C_below Mq.out HB.out)
  clear HB
  obtain ⟨Ah, ch, rfl, hc, hC⟩ := Kd.R_reads hrh
  have Mh := Aside0.mk hC
  have Lh := Aside0.mk hc
  clear hc hC hrh
  obtain ⟨Ac, cc, rfl, hc, hC⟩ := Kd.R_reads hrc
  have Mc := Aside0.mk hC
  have Lc := Aside0.mk hc
  clear hc hC hrc
  clear hb
  have rb0 := b0.out
  have rb1 := b1.out
  have rb2 := b2.out
  go_wp2_with fail
  clear rb0
  clear rb1
  clear rb2
  refine (corner_CheckMarket.calls ex Ah ch H Ac cc C 0 W10 Mh.out Lh.out Mc.out Lc.out ec.out).mono ?_
  rintro e W11 ⟨rfl, hb⟩
  have HB : Aside0 (Below W10.heap.size W10 W11) := ⟨hb⟩
  replace HT := Aside0.mk (HT.out.trans (HB.out.mono HT.out.size))
  replace m1 := Aside0.mk (Kd.C_below m1.out HB.out)
  replace m2 := Aside0.mk (Kd.C_below m2.out HB.out)
  replace m3 := Aside0.mk (Kd.C_below m3.out HB.out)
  replace b0 := Aside0.mk (pw_cell_below HB.out b0.out)
  replace b1 := Aside0.mk (pw_cell_below HB.out b1.out)
  replace b2 := Aside0.mk (pw_cell_below HB.out b2.out)
  replace Mn := Aside0.mk (Kd.C_below Mn.out HB.out)
  replace Mq := Aside0.mk (Kd.C_below Mq.out HB.out)
  replace Mh := Aside0.mk (Kd.C_below Mh.out HB.out)
  replace Mc := Aside0.mk (Kd.C_below Mc.out HB.out)
  clear HB
  clear hb
  have rb0 := b0.out
  have rb1 := b1.out
  have rb2 := b2.out
  go_wp2_with fail
  clear rb0
  clear rb1
  clear rb2
  clear Mh Mc
  refine (contangoref11_IsTruth.calls 3000 ex A1 c1 hs A2 c2 cs A3 c3 t false W11 m1.out h1.out m2.out h2.out m3.out h3.out ei.out).mono ?_
  rintro e W12 ⟨rfl, hb⟩
  have HB : Aside0 (Below W11.heap.size W11 W12) := ⟨hb⟩
  replace HT := Aside0.mk (HT.out.trans (HB.out.mono HT.out.size))
  replace m1 := Aside0.mk (Kd.C_below m1.out HB.out)
  replace m2 := Aside0.mk (Kd.C_below m2.out HB.out)
  replace m3 := Aside0.mk (Kd.C_below m3.out HB.out)
  replace b0 := Aside0.mk (pw_cell_below HB.out b0.out)
  replace b1 := Aside0.mk (pw_cell_below HB.out b1.out)
  replace b2 := Aside0.mk (pw_cell_below HB.out b2.out)
  replace Mn := Aside0.mk (Kd.C_below Mn.out HB.out)
  replace Mq := Aside0.mk (Kd.C_below Mq.out HB.out)
  clear HB
  clear hb
  have rb0 := b0.out
  have rb1 := b1.out
  have rb2 := b2.out
  go_wp2_with fail
  clear rb0
  clear rb1
  clear rb2
  refine (contangolaw11_awake.calls true W12 rfl).mono ?_
  rintro e W13 ⟨rfl, hb⟩
  have HB : Aside0 (Below W12.heap.size W12 W13) := ⟨hb⟩
  replace HT := Aside0.mk (HT.out.trans (HB.out.mono HT.out.size))
  replace m1 := Aside0.mk (Kd.C_below m1.out HB.out)
  replace m2 := Aside0.mk (Kd.C_below m2.out HB.out)
  replace m3 := Aside0.mk (Kd.C_below m3.out HB.out)
  replace b0 := Aside0.mk (pw_cell_below HB.out b0.out)
  replace b1 := Aside0.mk (pw_cell_below HB.out b1.out)
  replace b2 := Aside0.mk (pw_cell_below HB.out b2.out)
  replace Mn := Aside0.mk (Kd.C_below Mn.out HB.out)
  replace Mq := Aside0.mk (Kd.C_below Mq.out HB.out)
  clear HB
  clear hb
  have rb0 := b0.out
  have rb1 := b1.out
  have rb2 := b2.out
  go_wp2_with fail
  clear rb0
  clear rb1
  clear rb2
  go_ret
  exact ⟨rfl, HT.out⟩
set_option maxHeartbeats 4000000 in
set_option maxRecDepth 100000 in
theorem law3_yes (ex : Int) (A1 : Option Addr) (c1 : Nat) (hs : List S88) (A2 : Option Addr) (c2 : Nat) (cs : List S101) (A3 : Option Addr) (c3 : Nat) (t : List Int) (H : List S73) (C : List S75) (nl ql : List Int) (w : World) (m1 : Kd.C k88 w A1 hs.length hs) (h1 : hs.length ≤ c1) (m2 : Kd.C k101 w A2 cs.length cs) (h2 : cs.length ≤ c2) (m3 : Kd.C (Kd.int .i64) w A3 t.length t) (h3 : t.length ≤ c3) (ethin : contangolaw11_Thin.f ex hs cs t = some true) (em : contangolaw11_Market.f 3000 ex hs cs = some (ex, H, C)) (el : contangolaw11_list.f t = some t) (en : corner_Needs.f 3000 ex H C t = some (nl, ql, 0)) (ep : corner_ProveTruth.f 3000 ex H C t = some true) (ef : contangolaw11_fault.f 3000 ex hs cs = some 0) (ec : corner_CheckMarket.f ex H C = some 0) (ei : contangoref11_IsTruth.f 3000 ex hs cs t = some true) (er : contangoref11_Needs.f 3000 ex hs cs t = some (nl, ql)) (esn : contangoref11_Same.f 3000 nl nl = some true) (esq : contangoref11_Same.f 3000 ql ql = some true) :
    Calls Try.prog 3 #[.agg #[.int .i64 ex, .slice A1 hs.length c1, .slice A2 cs.length c2], .slice A3 t.length c3] w fun e w' => e = .returned (.bool true) ∧ Below w.heap.size w w' := by
  replace m1 := Aside0.mk m1
  replace h1 := Aside0.mk h1
  replace m2 := Aside0.mk m2
  replace h2 := Aside0.mk h2
  replace m3 := Aside0.mk m3
  replace h3 := Aside0.mk h3
  replace ethin := Aside0.mk ethin
  replace em := Aside0.mk em
  replace el := Aside0.mk el
  replace en := Aside0.mk en
  replace ep := Aside0.mk ep
  replace ef := Aside0.mk ef
  replace ec := Aside0.mk ec
  replace ei := Aside0.mk ei
  replace er := Aside0.mk er
  replace esn := Aside0.mk esn
  replace esq := Aside0.mk esq
  have HT : Aside0 (Below w.heap.size w w) := ⟨Below.refl _ _⟩
  go_enter Try.func3, Try.ntmps3
  go_wp2_with fail
  obtain ⟨W1, HW⟩ : ∃ W, Aside0 (w.alloc (.cells #[.int .i64 ex, .slice A1 hs.length c1, .slice A2 cs.length c2] 25) = W) := ⟨_, ⟨rfl⟩⟩
  have b0 : Aside0 (W1.cell? ⟨w.heap.size, 0, none⟩ = some (.int .i64 ex)) := ⟨by rw [← HW.out]; simp⟩
  have b1 : Aside0 (W1.cell? ⟨w.heap.size, 1, none⟩ = some (.slice A1 hs.length c1)) := ⟨by rw [← HW.out]; simp⟩
  have b2 : Aside0 (W1.cell? ⟨w.heap.size, 2, none⟩ = some (.slice A2 cs.length c2)) := ⟨by rw [← HW.out]; simp⟩
  have HB : Aside0 (Below w.heap.size w W1) := ⟨by rw [← HW.out]; exact (Below.refl _ _).alloc (Nat.le_refl _) _⟩
  replace HT := Aside0.mk (HT.out.trans (HB.out.mono HT.out.size))
  replace m1 := Aside0.mk (Kd.C_below m1.out HB.out)
  replace m2 := Aside0.mk (Kd.C_below m2.out HB.out)
  replace m3 := Aside0.mk (Kd.C_below m3.out HB.out)
  clear HB
  rw [HW.out]
  clear HW
  have rb0 := b0.out
  have rb1 := b1.out
  have rb2 := b2.out
  go_wp2_with fail
  clear rb0
  clear rb1
  clear rb2
  refine (contangolaw11_Thin.calls ex A1 c1 hs A2 c2 cs A3 c3 t true W1 m1.out h1.out m2.out h2.out m3.out h3.out ethin.out).mono ?_
  rintro e W2 ⟨rfl, hb⟩
  have HB : Aside0 (Below W1.heap.size W1 W2) := ⟨hb⟩
  replace HT := Aside0.mk (HT.out.trans (HB.out.mono HT.out.size))
  replace m1 := Aside0.mk (Kd.C_below m1.out HB.out)
  replace m2 := Aside0.mk (Kd.C_below m2.out HB.out)
  replace m3 := Aside0.mk (Kd.C_below m3.out HB.out)
  replace b0 := Aside0.mk (pw_cell_below HB.out b0.out)
  replace b1 := Aside0.mk (pw_cell_below HB.out b1.out)
  replace b2 := Aside0.mk (pw_cell_below HB.out b2.out)
  clear HB
  clear hb
  have rb0 := b0.out
  have rb1 := b1.out
  have rb2 := b2.out
  go_wp2_with fail
  clear rb0
  clear rb1
  clear rb2
  refine (contangolaw11_Market.calls 3000 ex A1 c1 hs A2 c2 cs ex H C W2 m1.out h1.out m2.out h2.out em.out).mono ?_
  rintro e W3 ⟨vh, vc, rfl, hrh, hrc, hb⟩
  have HB : Aside0 (Below W2.heap.size W2 W3) := ⟨hb⟩
  replace HT := Aside0.mk (HT.out.trans (HB.out.mono HT.out.size))
  replace m1 := Aside0.mk (Kd.C_below m1.out HB.out)
  replace m2 := Aside0.mk (Kd.C_below m2.out HB.out)
  replace m3 := Aside0.mk (Kd.C_below m3.out HB.out)
  replace b0 := Aside0.mk (pw_cell_below HB.out b0.out)
  replace b1 := Aside0.mk (pw_cell_below HB.out b1.out)
  replace b2 := Aside0.mk (pw_cell_below HB.out b2.out)
  clear HB
  obtain ⟨Ah, ch, rfl, hc, hC⟩ := Kd.R_reads hrh
  have Mh := Aside0.mk hC
  have Lh := Aside0.mk hc
  clear hc hC hrh
  obtain ⟨Ac, cc, rfl, hc, hC⟩ := Kd.R_reads hrc
  have Mc := Aside0.mk hC
  have Lc := Aside0.mk hc
  clear hc hC hrc
  clear hb
  have rb0 := b0.out
  have rb1 := b1.out
  have rb2 := b2.out
  go_wp2_with fail
  clear rb0
  clear rb1
  clear rb2
  refine (contangolaw11_list.calls A3 c3 t t W3 m3.out h3.out el.out).mono ?_
  rintro e W4 ⟨vt, rfl, hrt, hb⟩
  have HB : Aside0 (Below W3.heap.size W3 W4) := ⟨hb⟩
  replace HT := Aside0.mk (HT.out.trans (HB.out.mono HT.out.size))
  replace m1 := Aside0.mk (Kd.C_below m1.out HB.out)
  replace m2 := Aside0.mk (Kd.C_below m2.out HB.out)
  replace m3 := Aside0.mk (Kd.C_below m3.out HB.out)
  replace b0 := Aside0.mk (pw_cell_below HB.out b0.out)
  replace b1 := Aside0.mk (pw_cell_below HB.out b1.out)
  replace b2 := Aside0.mk (pw_cell_below HB.out b2.out)
  replace Mh := Aside0.mk (Kd.C_below Mh.out HB.out)
  replace Mc := Aside0.mk (Kd.C_below Mc.out HB.out)
  clear HB
  obtain ⟨At, ct, rfl, hc, hC⟩ := Kd.R_reads hrt
  have Mt := Aside0.mk hC
  have Lt := Aside0.mk hc
  clear hc hC hrt
  clear hb
  have rb0 := b0.out
  have rb1 := b1.out
  have rb2 := b2.out
  go_wp2_with fail
  clear rb0
  clear rb1
  clear rb2
  refine (corner_Needs.calls 3000 ex Ah ch H Ac cc C At ct t nl ql 0 W4 Mh.out Lh.out Mc.out Lc.out Mt.out Lt.out en.out).mono ?_
  rintro e W5 ⟨vn, vq, rfl, hrn, hrq, hb⟩
  have HB : Aside0 (Below W4.heap.size W4 W5) := ⟨hb⟩
  replace HT := Aside0.mk (HT.out.trans (HB.out.mono HT.out.size))
  replace m1 := Aside0.mk (Kd.C_below m1.out HB.out)
  replace m2 := Aside0.mk (Kd.C_below m2.out HB.out)
  replace m3 := Aside0.mk (Kd.C_below m3.out HB.out)
  replace b0 := Aside0.mk (pw_cell_below HB.out b0.out)
  replace b1 := Aside0.mk (pw_cell_below HB.out b1.out)
  replace b2 := Aside0.mk (pw_cell_below HB.out b2.out)
  replace Mh := Aside0.mk (Kd.C_below Mh.out HB.out)
  replace Mc := Aside0.mk (Kd.C_below Mc.out HB.out)
  replace Mt := Aside0.mk (Kd.C_below Mt.out HB.out)
  clear HB
  obtain ⟨An, cn, rfl, hc, hC⟩ := Kd.R_reads hrn
  have Mn := Aside0.mk hC
  have Ln := Aside0.mk hc
  clear hc hC hrn
  obtain ⟨Aq, cq, rfl, hc, hC⟩ := Kd.R_reads hrq
  have Mq := Aside0.mk hC
  have Lq := Aside0.mk hc
  clear hc hC hrq
  clear hb
  have rb0 := b0.out
  have rb1 := b1.out
  have rb2 := b2.out
  go_wp2_with fail
  clear rb0
  clear rb1
  clear rb2
  clear Mh Mc Mt
  refine (contangolaw11_Market.calls 3000 ex A1 c1 hs A2 c2 cs ex H C W5 m1.out h1.out m2.out h2.out em.out).mono ?_
  rintro e W6 ⟨vh, vc, rfl, hrh, hrc, hb⟩
  have HB : Aside0 (Below W5.heap.size W5 W6) := ⟨hb⟩
  replace HT := Aside0.mk (HT.out.trans (HB.out.mono HT.out.size))
  replace m1 := Aside0.mk (Kd.C_below m1.out HB.out)
  replace m2 := Aside0.mk (Kd.C_below m2.out HB.out)
  replace m3 := Aside0.mk (Kd.C_below m3.out HB.out)
  replace b0 := Aside0.mk (pw_cell_below HB.out b0.out)
  replace b1 := Aside0.mk (pw_cell_below HB.out b1.out)
  replace b2 := Aside0.mk (pw_cell_below HB.out b2.out)
  replace Mn := Aside0.mk (Kd.C_below Mn.out HB.out)
  replace Mq := Aside0.mk (Kd.C_below Mq.out HB.out)
  clear HB
  obtain ⟨Ah, ch, rfl, hc, hC⟩ := Kd.R_reads hrh
  have Mh := Aside0.mk hC
  have Lh := Aside0.mk hc
  clear hc hC hrh
  obtain ⟨Ac, cc, rfl, hc, hC⟩ := Kd.R_reads hrc
  have Mc := Aside0.mk hC
  have Lc := Aside0.mk hc
  clear hc hC hrc
  clear hb
  have rb0 := b0.out
  have rb1 := b1.out
  have rb2 := b2.out
  go_wp2_with fail
  clear rb0
  clear rb1
  clear rb2
  refine (contangolaw11_list.calls A3 c3 t t W6 m3.out h3.out el.out).mono ?_
  rintro e W7 ⟨vt, rfl, hrt, hb⟩
  have HB : Aside0 (Below W6.heap.size W6 W7) := ⟨hb⟩
  replace HT := Aside0.mk (HT.out.trans (HB.out.mono HT.out.size))
  replace m1 := Aside0.mk (Kd.C_below m1.out HB.out)
  replace m2 := Aside0.mk (Kd.C_below m2.out HB.out)
  replace m3 := Aside0.mk (Kd.C_below m3.out HB.out)
  replace b0 := Aside0.mk (pw_cell_below HB.out b0.out)
  replace b1 := Aside0.mk (pw_cell_below HB.out b1.out)
  replace b2 := Aside0.mk (pw_cell_below HB.out b2.out)
  replace Mn := Aside0.mk (Kd.C_below Mn.out HB.out)
  replace Mq := Aside0.mk (Kd.C_below Mq.out HB.out)
  replace Mh := Aside0.mk (Kd.C_below Mh.out HB.out)
  replace Mc := Aside0.mk (Kd.C_below Mc.out HB.out)
  clear HB
  obtain ⟨At, ct, rfl, hc, hC⟩ := Kd.R_reads hrt
  have Mt := Aside0.mk hC
  have Lt := Aside0.mk hc
  clear hc hC hrt
  clear hb
  have rb0 := b0.out
  have rb1 := b1.out
  have rb2 := b2.out
  go_wp2_with fail
  clear rb0
  clear rb1
  clear rb2
  refine (corner_ProveTruth.calls 3000 ex Ah ch H Ac cc C At ct t true W7 Mh.out Lh.out Mc.out Lc.out Mt.out Lt.out ep.out).mono ?_
  rintro e W8 ⟨rfl, hb⟩
  have HB : Aside0 (Below W7.heap.size W7 W8) := ⟨hb⟩
  replace HT := Aside0.mk (HT.out.trans (HB.out.mono HT.out.size))
  replace m1 := Aside0.mk (Kd.C_below m1.out HB.out)
  replace m2 := Aside0.mk (Kd.C_below m2.out HB.out)
  replace m3 := Aside0.mk (Kd.C_below m3.out HB.out)
  replace b0 := Aside0.mk (pw_cell_below HB.out b0.out)
  replace b1 := Aside0.mk (pw_cell_below HB.out b1.out)
  replace b2 := Aside0.mk (pw_cell_below HB.out b2.out)
  replace Mn := Aside0.mk (Kd.C_below Mn.out HB.out)
  replace Mq := Aside0.mk (Kd.C_below Mq.out HB.out)
  replace Mh := Aside0.mk (Kd.C_below Mh.out HB.out)
  replace Mc := Aside0.mk (Kd.C_below Mc.out HB.out)
  replace Mt := Aside0.mk (Kd.C_below Mt.out HB.out)
  clear HB
  clear hb
  have rb0 := b0.out
  have rb1 := b1.out
  have rb2 := b2.out
  go_wp2_with fail
  clear rb0
  clear rb1
  clear rb2
  clear Mh Mc Mt
  refine (contangolaw11_fault.calls 3000 ex A1 c1 hs A2 c2 cs 0 W8 m1.out h1.out m2.out h2.out ef.out).mono ?_
  rintro e W9 ⟨rfl, hb⟩
  have HB : Aside0 (Below W8.heap.size W8 W9) := ⟨hb⟩
  replace HT := Aside0.mk (HT.out.trans (HB.out.mono HT.out.size))
  replace m1 := Aside0.mk (Kd.C_below m1.out HB.out)
  replace m2 := Aside0.mk (Kd.C_below m2.out HB.out)
  replace m3 := Aside0.mk (Kd.C_below m3.out HB.out)
  replace b0 := Aside0.mk (pw_cell_below HB.out b0.out)
  replace b1 := Aside0.mk (pw_cell_below HB.out b1.out)
  replace b2 := Aside0.mk (pw_cell_below HB.out b2.out)
  replace Mn := Aside0.mk (Kd.C_below Mn.out HB.out)
  replace Mq := Aside0.mk (Kd.C_below Mq.out HB.out)
  clear HB
  clear hb
  have rb0 := b0.out
  have rb1 := b1.out
  have rb2 := b2.out
  go_wp2_with fail
  clear rb0
  clear rb1
  clear rb2
  refine (contangolaw11_Market.calls 3000 ex A1 c1 hs A2 c2 cs ex H C W9 m1.out h1.out m2.out h2.out em.out).mono ?_
  rintro e W10 ⟨vh, vc, rfl, hrh, hrc, hb⟩
  have HB : Aside0 (Below W9.heap.size W9 W10) := ⟨hb⟩
  replace HT := Aside0.mk (HT.out.trans (HB.out.mono HT.out.size))
  replace m1 := Aside0.mk (Kd.C_below m1.out HB.out)
  replace m2 := Aside0.mk (Kd.C_below m2.out HB.out)
  replace m3 := Aside0.mk (Kd.C_below m3.out HB.out)
  replace b0 := Aside0.mk (pw_cell_below HB.out b0.out)
  replace b1 := Aside0.mk (pw_cell_below HB.out b1.out)
  replace b2 := Aside0.mk (pw_cell_below HB.out b2.out)
  replace Mn := Aside0.mk (Kd.C_below Mn.out HB.out)
  replace Mq := Aside0.mk (Kd.C_below Mq.out HB.out)
  clear HB
  obtain ⟨Ah, ch, rfl, hc, hC⟩ := Kd.R_reads hrh
  have Mh := Aside0.mk hC
  have Lh := Aside0.mk hc
  clear hc hC hrh
  obtain ⟨Ac, cc, rfl, hc, hC⟩ := Kd.R_reads hrc
  have Mc := Aside0.mk hC
  have Lc := Aside0.mk hc
  clear hc hC hrc
  clear hb
  have rb0 := b0.out
  have rb1 := b1.out
  have rb2 := b2.out
  go_wp2_with fail
  clear rb0
  clear rb1
  clear rb2
  refine (corner_CheckMarket.calls ex Ah ch H Ac cc C 0 W10 Mh.out Lh.out Mc.out Lc.out ec.out).mono ?_
  rintro e W11 ⟨rfl, hb⟩
  have HB : Aside0 (Below W10.heap.size W10 W11) := ⟨hb⟩
  replace HT := Aside0.mk (HT.out.trans (HB.out.mono HT.out.size))
  replace m1 := Aside0.mk (Kd.C_below m1.out HB.out)
  replace m2 := Aside0.mk (Kd.C_below m2.out HB.out)
  replace m3 := Aside0.mk (Kd.C_below m3.out HB.out)
  replace b0 := Aside0.mk (pw_cell_below HB.out b0.out)
  replace b1 := Aside0.mk (pw_cell_below HB.out b1.out)
  replace b2 := Aside0.mk (pw_cell_below HB.out b2.out)
  replace Mn := Aside0.mk (Kd.C_below Mn.out HB.out)
  replace Mq := Aside0.mk (Kd.C_below Mq.out HB.out)
  replace Mh := Aside0.mk (Kd.C_below Mh.out HB.out)
  replace Mc := Aside0.mk (Kd.C_below Mc.out HB.out)
  clear HB
  clear hb
  have rb0 := b0.out
  have rb1 := b1.out
  have rb2 := b2.out
  go_wp2_with fail
  clear rb0
  clear rb1
  clear rb2
  clear Mh Mc
  refine (contangoref11_IsTruth.calls 3000 ex A1 c1 hs A2 c2 cs A3 c3 t true W11 m1.out h1.out m2.out h2.out m3.out h3.out ei.out).mono ?_
  rintro e W12 ⟨rfl, hb⟩
  have HB : Aside0 (Below W11.heap.size W11 W12) := ⟨hb⟩
  replace HT := Aside0.mk (HT.out.trans (HB.out.mono HT.out.size))
  replace m1 := Aside0.mk (Kd.C_below m1.out HB.out)
  replace m2 := Aside0.mk (Kd.C_below m2.out HB.out)
  replace m3 := Aside0.mk (Kd.C_below m3.out HB.out)
  replace b0 := Aside0.mk (pw_cell_below HB.out b0.out)
  replace b1 := Aside0.mk (pw_cell_below HB.out b1.out)
  replace b2 := Aside0.mk (pw_cell_below HB.out b2.out)
  replace Mn := Aside0.mk (Kd.C_below Mn.out HB.out)
  replace Mq := Aside0.mk (Kd.C_below Mq.out HB.out)
  clear HB
  clear hb
  have rb0 := b0.out
  have rb1 := b1.out
  have rb2 := b2.out
  go_wp2_with fail
  clear rb0
  clear rb1
  clear rb2
  refine (contangoref11_Needs.calls 3000 ex A1 c1 hs A2 c2 cs A3 c3 t nl ql W12 m1.out h1.out m2.out h2.out m3.out h3.out er.out).mono ?_
  rintro e W13 ⟨va, vb, rfl, hra, hrb, hb⟩
  have HB : Aside0 (Below W12.heap.size W12 W13) := ⟨hb⟩
  replace HT := Aside0.mk (HT.out.trans (HB.out.mono HT.out.size))
  replace m1 := Aside0.mk (Kd.C_below m1.out HB.out)
  replace m2 := Aside0.mk (Kd.C_below m2.out HB.out)
  replace m3 := Aside0.mk (Kd.C_below m3.out HB.out)
  replace b0 := Aside0.mk (pw_cell_below HB.out b0.out)
  replace b1 := Aside0.mk (pw_cell_below HB.out b1.out)
  replace b2 := Aside0.mk (pw_cell_below HB.out b2.out)
  replace Mn := Aside0.mk (Kd.C_below Mn.out HB.out)
  replace Mq := Aside0.mk (Kd.C_below Mq.out HB.out)
  clear HB
  obtain ⟨Aa, ca, rfl, hc, hC⟩ := Kd.R_reads hra
  have Ma := Aside0.mk hC
  have La := Aside0.mk hc
  clear hc hC hra
  obtain ⟨Ab, cb, rfl, hc, hC⟩ := Kd.R_reads hrb
  have Mb := Aside0.mk hC
  have Lb := Aside0.mk hc
  clear hc hC hrb
  clear hb
  have rb0 := b0.out
  have rb1 := b1.out
  have rb2 := b2.out
  go_wp2_with fail
  clear rb0
  clear rb1
  clear rb2
  refine (contangoref11_Same.calls 3000 An cn nl Aa ca nl true W13 Mn.out Ln.out Ma.out La.out esn.out).mono ?_
  rintro e W14 ⟨rfl, hb⟩
  have HB : Aside0 (Below W13.heap.size W13 W14) := ⟨hb.below⟩
  replace HT := Aside0.mk (HT.out.trans (HB.out.mono HT.out.size))
  replace m1 := Aside0.mk (Kd.C_below m1.out HB.out)
  replace m2 := Aside0.mk (Kd.C_below m2.out HB.out)
  replace m3 := Aside0.mk (Kd.C_below m3.out HB.out)
  replace b0 := Aside0.mk (pw_cell_below HB.out b0.out)
  replace b1 := Aside0.mk (pw_cell_below HB.out b1.out)
  replace b2 := Aside0.mk (pw_cell_below HB.out b2.out)
  replace Mn := Aside0.mk (Kd.C_below Mn.out HB.out)
  replace Mq := Aside0.mk (Kd.C_below Mq.out HB.out)
  replace Ma := Aside0.mk (Kd.C_below Ma.out HB.out)
  replace Mb := Aside0.mk (Kd.C_below Mb.out HB.out)
  clear HB
  clear hb
  have rb0 := b0.out
  have rb1 := b1.out
  have rb2 := b2.out
  go_wp2_with fail
  clear rb0
  clear rb1
  clear rb2
  refine (contangoref11_Same.calls 3000 Aq cq ql Ab cb ql true W14 Mq.out Lq.out Mb.out Lb.out esq.out).mono ?_
  rintro e W15 ⟨rfl, hb⟩
  have HB : Aside0 (Below W14.heap.size W14 W15) := ⟨hb.below⟩
  replace HT := Aside0.mk (HT.out.trans (HB.out.mono HT.out.size))
  replace m1 := Aside0.mk (Kd.C_below m1.out HB.out)
  replace m2 := Aside0.mk (Kd.C_below m2.out HB.out)
  replace m3 := Aside0.mk (Kd.C_below m3.out HB.out)
  replace b0 := Aside0.mk (pw_cell_below HB.out b0.out)
  replace b1 := Aside0.mk (pw_cell_below HB.out b1.out)
  replace b2 := Aside0.mk (pw_cell_below HB.out b2.out)
  replace Mn := Aside0.mk (Kd.C_below Mn.out HB.out)
  replace Mq := Aside0.mk (Kd.C_below Mq.out HB.out)
  replace Ma := Aside0.mk (Kd.C_below Ma.out HB.out)
  replace Mb := Aside0.mk (Kd.C_below Mb.out HB.out)
  clear HB
  clear hb
  have rb0 := b0.out
  have rb1 := b1.out
  have rb2 := b2.out
  go_wp2_with fail
  clear rb0
  clear rb1
  clear rb2
  refine (contangolaw11_awake.calls true W15 rfl).mono ?_
  rintro e W16 ⟨rfl, hb⟩
  have HB : Aside0 (Below W15.heap.size W15 W16) := ⟨hb⟩
  replace HT := Aside0.mk (HT.out.trans (HB.out.mono HT.out.size))
  replace m1 := Aside0.mk (Kd.C_below m1.out HB.out)
  replace m2 := Aside0.mk (Kd.C_below m2.out HB.out)
  replace m3 := Aside0.mk (Kd.C_below m3.out HB.out)
  replace b0 := Aside0.mk (pw_cell_below HB.out b0.out)
  replace b1 := Aside0.mk (pw_cell_below HB.out b1.out)
  replace b2 := Aside0.mk (pw_cell_below HB.out b2.out)
  replace Mn := Aside0.mk (Kd.C_below Mn.out HB.out)
  replace Mq := Aside0.mk (Kd.C_below Mq.out HB.out)
  replace Ma := Aside0.mk (Kd.C_below Ma.out HB.out)
  replace Mb := Aside0.mk (Kd.C_below Mb.out HB.out)
  clear HB
  clear hb
  have rb0 := b0.out
  have rb1 := b1.out
  have rb2 := b2.out
  go_wp2_with fail
  clear rb0
  clear rb1
  clear rb2
  go_ret
  exact ⟨rfl, HT.out⟩
theorem law3 (ex : Int) (A1 : Option Addr) (c1 : Nat) (hs : List S88) (A2 : Option Addr) (c2 : Nat) (cs : List S101) (A3 : Option Addr) (c3 : Nat) (t : List Int) (w : World) (m1 : Kd.C k88 w A1 hs.length hs) (h1 : hs.length ≤ c1) (m2 : Kd.C k101 w A2 cs.length cs) (h2 : cs.length ≤ c2) (m3 : Kd.C (Kd.int .i64) w A3 t.length t) (h3 : t.length ≤ c3) :
    Calls Try.prog 3 #[.agg #[.int .i64 ex, .slice A1 hs.length c1, .slice A2 cs.length c2], .slice A3 t.length c3] w fun e w' => e = .returned (.bool true) ∧ Below w.heap.size w w' := by
  by_cases hT : hs.length ≤ 9 ∧ cs.length ≤ 11 ∧ t.length ≤ 9
  · obtain ⟨T1, T2, T3⟩ := hT
    have em := market_f 3000 ex hs cs (by omega) (by omega) (by omega)
    have el := list_f t (by omega)
    have lH : (hs.map cvH).length < 3000 := by simp; omega
    have en := needs_f 3000 ex (hs.map cvH) (cs.map cvC) t lH
    have ep := ptruth_f 3000 ex (hs.map cvH) (cs.map cvC) t lH
    have ef := lfault_f 3000 ex hs cs (by omega) (by omega) (by omega)
    have eT := thin_yes ex hs cs t T1 T2 T3
    by_cases h0 : ck ex (hs.map cvH) (cs.map cvC) = 0
    · have ei := istruth_f 3000 ex hs cs t (by omega) (ck_zero h0).2.2.2.2.2.1 (by omega)
      rw [if_pos h0] at en ep
      rw [h0] at ef
      by_cases ht : isT ex (hs.map cvH) t = true
      · rw [if_pos ht, List.length_map] at en
        rw [ht] at ep ei
        exact law3_yes ex A1 c1 hs A2 c2 cs A3 c3 t _ _ _ _ w m1 h1 m2 h2 m3 h3 eT em el en ep ef (by unfold corner_CheckMarket.f; rw [h0]) ei (rneeds_f 3000 ex hs cs t h0 ht (by omega)) (same_f 3000 _ (by simp [ndL]; omega) (by omega)) (same_f 3000 _ (by simp [spL]; omega) (by omega))
      · rw [if_neg ht] at en
        rw [show isT ex (hs.map cvH) t = false by simpa using ht] at ep ei
        exact law3_no ex A1 c1 hs A2 c2 cs A3 c3 t _ _ w m1 h1 m2 h2 m3 h3 eT em el en ep ef (by unfold corner_CheckMarket.f; rw [h0]) ei
    · rw [if_neg h0] at en ep
      exact law3_bad ex A1 c1 hs A2 c2 cs A3 c3 t _ _ _ h0 w m1 h1 m2 h2 m3 h3 eT em el en ep ef (by unfold corner_CheckMarket.f; rfl)
  · exact law3_thin ex A1 c1 hs A2 c2 cs A3 c3 t w m1 h1 m2 h2 m3 h3 (thin_no ex hs cs t hT)
end Go.Proofs.Ytgjifkegfbpjkaa.Q
end
