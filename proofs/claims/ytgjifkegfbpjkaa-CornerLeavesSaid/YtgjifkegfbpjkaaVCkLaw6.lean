/- The law CornerLeaves walked. -/
import Derived.Test.YtgjifkegfbpjkaaVCkThin
import Derived.Test.YtgjifkegfbpjkaaVCkAwake
import Derived.Test.YtgjifkegfbpjkaaVCkLeaves
section
namespace Go.Proofs.Ytgjifkegfbpjkaa.Q
set_option linter.unusedVariables false
set_option linter.unusedSimpArgs false
open Go.RowKit Go.Maps Go.Proofs.YtgjifkegfbpjkaaW.PrintWords Go.Proofs.YtgjifkegfbpjkaaW.PrintLast Go.Proofs.YtgjifkegfbpjkaaW.PrintMore
theorem C_nil0 (w : World) : Kd.C (Kd.int .i64) w none ([] : List Int).length [] := Kd.C_nil _ _
set_option maxHeartbeats 4000000 in
set_option maxRecDepth 100000 in
theorem law6_thin (ex : Int) (A1 : Option Addr) (c1 : Nat) (hs : List S88) (A2 : Option Addr) (c2 : Nat) (cs : List S101) (w : World) (m1 : Kd.C k88 w A1 hs.length hs) (h1 : hs.length ≤ c1) (m2 : Kd.C k101 w A2 cs.length cs) (h2 : cs.length ≤ c2) (ethin : contangolaw11_Thin.f ex hs cs [] = some false) :
    Calls Try.prog 6 #[.agg #[.int .i64 ex, .slice A1 hs.length c1, .slice A2 cs.length c2]] w fun e w' => e = .returned (.bool true) ∧ Below w.heap.size w w' := by
  replace m1 := Aside0.mk m1
  replace h1 := Aside0.mk h1
  replace m2 := Aside0.mk m2
  replace h2 := Aside0.mk h2
  replace ethin := Aside0.mk ethin
  have HT : Aside0 (Below w.heap.size w w) := ⟨Below.refl _ _⟩
  go_enter Try.func6, Try.ntmps6
  go_wp2_with fail
  obtain ⟨W1, HW⟩ : ∃ W, Aside0 (w.alloc (.cells #[.int .i64 ex, .slice A1 hs.length c1, .slice A2 cs.length c2] 25) = W) := ⟨_, ⟨rfl⟩⟩
  have b0 : Aside0 (W1.cell? ⟨w.heap.size, 0, none⟩ = some (.int .i64 ex)) := ⟨by rw [← HW.out]; simp⟩
  have b1 : Aside0 (W1.cell? ⟨w.heap.size, 1, none⟩ = some (.slice A1 hs.length c1)) := ⟨by rw [← HW.out]; simp⟩
  have b2 : Aside0 (W1.cell? ⟨w.heap.size, 2, none⟩ = some (.slice A2 cs.length c2)) := ⟨by rw [← HW.out]; simp⟩
  have HB : Aside0 (Below w.heap.size w W1) := ⟨by rw [← HW.out]; exact (Below.refl _ _).alloc (Nat.le_refl _) _⟩
  replace HT := Aside0.mk (HT.out.trans (HB.out.mono HT.out.size))
  replace m1 := Aside0.mk (Kd.C_below m1.out HB.out)
  replace m2 := Aside0.mk (Kd.C_below m2.out HB.out)
  clear HB
  rw [HW.out]
  clear HW
  have rb0 := b0.out
  have rb1 := b1.out
  have rb2 := b2.out
  go_wp2_with fail
  clear rb0
  clear rb1
  clear rb2
  refine (contangolaw11_Thin.calls ex A1 c1 hs A2 c2 cs none 0 [] false W1 m1.out h1.out m2.out h2.out (C_nil0 _) (Nat.le_refl 0) ethin.out).mono ?_
  rintro e W2 ⟨rfl, hb⟩
  have HB : Aside0 (Below W1.heap.size W1 W2) := ⟨hb⟩
  replace HT := Aside0.mk (HT.out.trans (HB.out.mono HT.out.size))
  replace m1 := Aside0.mk (Kd.C_below m1.out HB.out)
  replace m2 := Aside0.mk (Kd.C_below m2.out HB.out)
  replace b0 := Aside0.mk (pw_cell_below HB.out b0.out)
  replace b1 := Aside0.mk (pw_cell_below HB.out b1.out)
  replace b2 := Aside0.mk (pw_cell_below HB.out b2.out)
  clear HB
  clear hb
  have rb0 := b0.out
  have rb1 := b1.out
  have rb2 := b2.out
  go_wp2_with fail
  clear rb0
  clear rb1
  clear rb2
  refine (contangolaw11_awake.calls true W2 rfl).mono ?_
  rintro e W3 ⟨rfl, hb⟩
  have HB : Aside0 (Below W2.heap.size W2 W3) := ⟨hb⟩
  replace HT := Aside0.mk (HT.out.trans (HB.out.mono HT.out.size))
  replace m1 := Aside0.mk (Kd.C_below m1.out HB.out)
  replace m2 := Aside0.mk (Kd.C_below m2.out HB.out)
  replace b0 := Aside0.mk (pw_cell_below HB.out b0.out)
  replace b1 := Aside0.mk (pw_cell_below HB.out b1.out)
  replace b2 := Aside0.mk (pw_cell_below HB.out b2.out)
  clear HB
  clear hb
  have rb0 := b0.out
  have rb1 := b1.out
  have rb2 := b2.out
  go_wp2_with fail
  clear rb0
  clear rb1
  clear rb2
  go_ret
  exact ⟨rfl, HT.out⟩
set_option maxHeartbeats 4000000 in
set_option maxRecDepth 100000 in
theorem law6_bad (ex : Int) (A1 : Option Addr) (c1 : Nat) (hs : List S88) (A2 : Option Addr) (c2 : Nat) (cs : List S101) (H : List S73) (C : List S75) (k0 : Int) (hk0 : k0 ≠ 0) (w : World) (m1 : Kd.C k88 w A1 hs.length hs) (h1 : hs.length ≤ c1) (m2 : Kd.C k101 w A2 cs.length cs) (h2 : cs.length ≤ c2) (ethin : contangolaw11_Thin.f ex hs cs [] = some true) (em : contangolaw11_Market.f 3000 ex hs cs = some (ex, H, C)) (ev : corner_Leave.f ex H C = some ([], k0)) (ef : contangolaw11_fault.f 3000 ex hs cs = some k0) :
    Calls Try.prog 6 #[.agg #[.int .i64 ex, .slice A1 hs.length c1, .slice A2 cs.length c2]] w fun e w' => e = .returned (.bool true) ∧ Below w.heap.size w w' := by
  replace m1 := Aside0.mk m1
  replace h1 := Aside0.mk h1
  replace m2 := Aside0.mk m2
  replace h2 := Aside0.mk h2
  replace ethin := Aside0.mk ethin
  replace em := Aside0.mk em
  replace ev := Aside0.mk ev
  replace ef := Aside0.mk ef
  have HT : Aside0 (Below w.heap.size w w) := ⟨Below.refl _ _⟩
  go_enter Try.func6, Try.ntmps6
  go_wp2_with fail
  have d1 : (k0 == 0) = false := beq_eq_false_iff_ne.2 hk0
  have d2 : decide (k0 = 0) = false := decide_eq_false hk0
  obtain ⟨W1, HW⟩ : ∃ W, Aside0 (w.alloc (.cells #[.int .i64 ex, .slice A1 hs.length c1, .slice A2 cs.length c2] 25) = W) := ⟨_, ⟨rfl⟩⟩
  have b0 : Aside0 (W1.cell? ⟨w.heap.size, 0, none⟩ = some (.int .i64 ex)) := ⟨by rw [← HW.out]; simp⟩
  have b1 : Aside0 (W1.cell? ⟨w.heap.size, 1, none⟩ = some (.slice A1 hs.length c1)) := ⟨by rw [← HW.out]; simp⟩
  have b2 : Aside0 (W1.cell? ⟨w.heap.size, 2, none⟩ = some (.slice A2 cs.length c2)) := ⟨by rw [← HW.out]; simp⟩
  have HB : Aside0 (Below w.heap.size w W1) := ⟨by rw [← HW.out]; exact (Below.refl _ _).alloc (Nat.le_refl _) _⟩
  replace HT := Aside0.mk (HT.out.trans (HB.out.mono HT.out.size))
  replace m1 := Aside0.mk (Kd.C_below m1.out HB.out)
  replace m2 := Aside0.mk (Kd.C_below m2.out HB.out)
  clear HB
  rw [HW.out]
  clear HW
  have rb0 := b0.out
  have rb1 := b1.out
  have rb2 := b2.out
  go_wp2_with fail
  clear rb0
  clear rb1
  clear rb2
  refine (contangolaw11_Thin.calls ex A1 c1 hs A2 c2 cs none 0 [] true W1 m1.out h1.out m2.out h2.out (C_nil0 _) (Nat.le_refl 0) ethin.out).mono ?_
  rintro e W2 ⟨rfl, hb⟩
  have HB : Aside0 (Below W1.heap.size W1 W2) := ⟨hb⟩
  replace HT := Aside0.mk (HT.out.trans (HB.out.mono HT.out.size))
  replace m1 := Aside0.mk (Kd.C_below m1.out HB.out)
  replace m2 := Aside0.mk (Kd.C_below m2.out HB.out)
  replace b0 := Aside0.mk (pw_cell_below HB.out b0.out)
  replace b1 := Aside0.mk (pw_cell_below HB.out b1.out)
  replace b2 := Aside0.mk (pw_cell_below HB.out b2.out)
  clear HB
  clear hb
  have rb0 := b0.out
  have rb1 := b1.out
  have rb2 := b2.out
  go_wp2_with fail
  clear rb0
  clear rb1
  clear rb2
  refine (contangolaw11_Market.calls 3000 ex A1 c1 hs A2 c2 cs ex H C W2 m1.out h1.out m2.out h2.out em.out).mono ?_
  rintro e W3 ⟨vh, vc, rfl, hrh, hrc, hb⟩
  have HB : Aside0 (Below W2.heap.size W2 W3) := ⟨hb⟩
  replace HT := Aside0.mk (HT.out.trans (HB.out.mono HT.out.size))
  replace m1 := Aside0.mk (Kd.C_below m1.out HB.out)
  replace m2 := Aside0.mk (Kd.C_below m2.out HB.out)
  replace b0 := Aside0.mk (pw_cell_below HB.out b0.out)
  replace b1 := Aside0.mk (pw_cell_below HB.out b1.out)
  replace b2 := Aside0.mk (pw_cell_below HB.out b2.out)
  clear HB
  obtain ⟨Ah, ch, rfl, hc, hC⟩ := Kd.R_reads hrh
  have Mh := Aside0.mk hC
  have Lh := Aside0.mk hc
  clear hc hC hrh
  obtain ⟨Ac, cc, rfl, hc, hC⟩ := Kd.R_reads hrc
  have Mc := Aside0.mk hC
  have Lc := Aside0.mk hc
  clear hc hC hrc
  clear hb
  have rb0 := b0.out
  have rb1 := b1.out
  have rb2 := b2.out
  go_wp2_with fail
  clear rb0
  clear rb1
  clear rb2
  refine (corner_Leave.calls ex Ah ch H Ac cc C [] k0 W3 Mh.out Lh.out Mc.out Lc.out ev.out).mono ?_
  rintro e W4 ⟨vn, rfl, hrn, hb⟩
  have HB : Aside0 (Below W3.heap.size W3 W4) := ⟨hb⟩
  replace HT := Aside0.mk (HT.out.trans (HB.out.mono HT.out.size))
  replace m1 := Aside0.mk (Kd.C_below m1.out HB.out)
  replace m2 := Aside0.mk (Kd.C_below m2.out HB.out)
  replace b0 := Aside0.mk (pw_cell_below HB.out b0.out)
  replace b1 := Aside0.mk (pw_cell_below HB.out b1.out)
  replace b2 := Aside0.mk (pw_cell_below HB.out b2.out)
  replace Mh := Aside0.mk (Kd.C_below Mh.out HB.out)
  replace Mc := Aside0.mk (Kd.C_below Mc.out HB.out)
  clear HB
  obtain ⟨An, cn, rfl, hc, hC⟩ := Kd.R_reads hrn
  have Mn := Aside0.mk hC
  have Ln := Aside0.mk hc
  clear hc hC hrn
  clear hb
  have rb0 := b0.out
  have rb1 := b1.out
  have rb2 := b2.out
  go_wp2_with fail
  clear rb0
  clear rb1
  clear rb2
  clear Mh Mc
  refine (contangolaw11_fault.calls 3000 ex A1 c1 hs A2 c2 cs k0 W4 m1.out h1.out m2.out h2.out ef.out).mono ?_
  rintro e W5 ⟨rfl, hb⟩
  have HB : Aside0 (Below W4.heap.size W4 W5) := ⟨hb⟩
  replace HT := Aside0.mk (HT.out.trans (HB.out.mono HT.out.size))
  replace m1 := Aside0.mk (Kd.C_below m1.out HB.out)
  replace m2 := Aside0.mk (Kd.C_below m2.out HB.out)
  replace b0 := Aside0.mk (pw_cell_below HB.out b0.out)
  replace b1 := Aside0.mk (pw_cell_below HB.out b1.out)
  replace b2 := Aside0.mk (pw_cell_below HB.out b2.out)
  replace Mn := Aside0.mk (Kd.C_below Mn.out HB.out)
  clear HB
  clear hb
  have rb0 := b0.out
  have rb1 := b1.out
  have rb2 := b2.out
  go_wp2_with fail
  clear rb0
  clear rb1
  clear rb2
  refine (contangolaw11_awake.calls true W5 rfl).mono ?_
  rintro e W6 ⟨rfl, hb⟩
  have HB : Aside0 (Below W5.heap.size W5 W6) := ⟨hb⟩
  replace HT := Aside0.mk (HT.out.trans (HB.out.mono HT.out.size))
  replace m1 := Aside0.mk (Kd.C_below m1.out HB.out)
  replace m2 := Aside0.mk (Kd.C_below m2.out HB.out)
  replace b0 := Aside0.mk (pw_cell_below HB.out b0.out)
  replace b1 := Aside0.mk (pw_cell_below HB.out b1.out)
  replace b2 := Aside0.mk (pw_cell_below HB.out b2.out)
  replace Mn := Aside0.mk (Kd.C_below Mn.out HB.out)
  clear HB
  clear hb
  have rb0 := b0.out
  have rb1 := b1.out
  have rb2 := b2.out
  go_wp2_with fail
  clear rb0
  clear rb1
  clear rb2
  go_ret
  exact ⟨rfl, HT.out⟩
set_option maxHeartbeats 4000000 in
set_option maxRecDepth 100000 in
theorem law6_yes (ex : Int) (A1 : Option Addr) (c1 : Nat) (hs : List S88) (A2 : Option Addr) (c2 : Nat) (cs : List S101) (H : List S73) (C : List S75) (l : List Int) (w : World) (m1 : Kd.C k88 w A1 hs.length hs) (h1 : hs.length ≤ c1) (m2 : Kd.C k101 w A2 cs.length cs) (h2 : cs.length ≤ c2) (ethin : contangolaw11_Thin.f ex hs cs [] = some true) (em : contangolaw11_Market.f 3000 ex hs cs = some (ex, H, C)) (ev : corner_Leave.f ex H C = some (l, 0)) (ef : contangolaw11_fault.f 3000 ex hs cs = some 0) (er : contangoref11_Leave.f ex hs cs = some l) (es : contangoref11_Same.f 3000 l l = some true) :
    Calls Try.prog 6 #[.agg #[.int .i64 ex, .slice A1 hs.length c1, .slice A2 cs.length c2]] w fun e w' => e = .returned (.bool true) ∧ Below w.heap.size w w' := by
  replace m1 := Aside0.mk m1
  replace h1 := Aside0.mk h1
  replace m2 := Aside0.mk m2
  replace h2 := Aside0.mk h2
  replace ethin := Aside0.mk ethin
  replace em := Aside0.mk em
  replace ev := Aside0.mk ev
  replace ef := Aside0.mk ef
  replace er := Aside0.mk er
  replace es := Aside0.mk es
  have HT : Aside0 (Below w.heap.size w w) := ⟨Below.refl _ _⟩
  go_enter Try.func6, Try.ntmps6
  go_wp2_with fail
  obtain ⟨W1, HW⟩ : ∃ W, Aside0 (w.alloc (.cells #[.int .i64 ex, .slice A1 hs.length c1, .slice A2 cs.length c2] 25) = W) := ⟨_, ⟨rfl⟩⟩
  have b0 : Aside0 (W1.cell? ⟨w.heap.size, 0, none⟩ = some (.int .i64 ex)) := ⟨by rw [← HW.out]; simp⟩
  have b1 : Aside0 (W1.cell? ⟨w.heap.size, 1, none⟩ = some (.slice A1 hs.length c1)) := ⟨by rw [← HW.out]; simp⟩
  have b2 : Aside0 (W1.cell? ⟨w.heap.size, 2, none⟩ = some (.slice A2 cs.length c2)) := ⟨by rw [← HW.out]; simp⟩
  have HB : Aside0 (Below w.heap.size w W1) := ⟨by rw [← HW.out]; exact (Below.refl _ _).alloc (Nat.le_refl _) _⟩
  replace HT := Aside0.mk (HT.out.trans (HB.out.mono HT.out.size))
  replace m1 := Aside0.mk (Kd.C_below m1.out HB.out)
  replace m2 := Aside0.mk (Kd.C_below m2.out HB.out)
  clear HB
  rw [HW.out]
  clear HW
  have rb0 := b0.out
  have rb1 := b1.out
  have rb2 := b2.out
  go_wp2_with fail
  clear rb0
  clear rb1
  clear rb2
  refine (contangolaw11_Thin.calls ex A1 c1 hs A2 c2 cs none 0 [] true W1 m1.out h1.out m2.out h2.out (C_nil0 _) (Nat.le_refl 0) ethin.out).mono ?_
  rintro e W2 ⟨rfl, hb⟩
  have HB : Aside0 (Below W1.heap.size W1 W2) := ⟨hb⟩
  replace HT := Aside0.mk (HT.out.trans (HB.out.mono HT.out.size))
  replace m1 := Aside0.mk (Kd.C_below m1.out HB.out)
  replace m2 := Aside0.mk (Kd.C_below m2.out HB.out)
  replace b0 := Aside0.mk (pw_cell_below HB.out b0.out)
  replace b1 := Aside0.mk (pw_cell_below HB.out b1.out)
  replace b2 := Aside0.mk (pw_cell_below HB.out b2.out)
  clear HB
  clear hb
  have rb0 := b0.out
  have rb1 := b1.out
  have rb2 := b2.out
  go_wp2_with fail
  clear rb0
  clear rb1
  clear rb2
  refine (contangolaw11_Market.calls 3000 ex A1 c1 hs A2 c2 cs ex H C W2 m1.out h1.out m2.out h2.out em.out).mono ?_
  rintro e W3 ⟨vh, vc, rfl, hrh, hrc, hb⟩
  have HB : Aside0 (Below W2.heap.size W2 W3) := ⟨hb⟩
  replace HT := Aside0.mk (HT.out.trans (HB.out.mono HT.out.size))
  replace m1 := Aside0.mk (Kd.C_below m1.out HB.out)
  replace m2 := Aside0.mk (Kd.C_below m2.out HB.out)
  replace b0 := Aside0.mk (pw_cell_below HB.out b0.out)
  replace b1 := Aside0.mk (pw_cell_below HB.out b1.out)
  replace b2 := Aside0.mk (pw_cell_below HB.out b2.out)
  clear HB
  obtain ⟨Ah, ch, rfl, hc, hC⟩ := Kd.R_reads hrh
  have Mh := Aside0.mk hC
  have Lh := Aside0.mk hc
  clear hc hC hrh
  obtain ⟨Ac, cc, rfl, hc, hC⟩ := Kd.R_reads hrc
  have Mc := Aside0.mk hC
  have Lc := Aside0.mk hc
  clear hc hC hrc
  clear hb
  have rb0 := b0.out
  have rb1 := b1.out
  have rb2 := b2.out
  go_wp2_with fail
  clear rb0
  clear rb1
  clear rb2
  refine (corner_Leave.calls ex Ah ch H Ac cc C l 0 W3 Mh.out Lh.out Mc.out Lc.out ev.out).mono ?_
  rintro e W4 ⟨vn, rfl, hrn, hb⟩
  have HB : Aside0 (Below W3.heap.size W3 W4) := ⟨hb⟩
  replace HT := Aside0.mk (HT.out.trans (HB.out.mono HT.out.size))
  replace m1 := Aside0.mk (Kd.C_below m1.out HB.out)
  replace m2 := Aside0.mk (Kd.C_below m2.out HB.out)
  replace b0 := Aside0.mk (pw_cell_below HB.out b0.out)
  replace b1 := Aside0.mk (pw_cell_below HB.out b1.out)
  replace b2 := Aside0.mk (pw_cell_below HB.out b2.out)
  replace Mh := Aside0.mk (Kd.C_below Mh.out HB.out)
  replace Mc := Aside0.mk (Kd.C_below Mc.out HB.out)
  clear HB
  obtain ⟨An, cn, rfl, hc, hC⟩ := Kd.R_reads hrn
  have Mn := Aside0.mk hC
  have Ln := Aside0.mk hc
  clear hc hC hrn
  clear hb
  have rb0 := b0.out
  have rb1 := b1.out
  have rb2 := b2.out
  go_wp2_with fail
  clear rb0
  clear rb1
  clear rb2
  clear Mh Mc
  refine (contangolaw11_fault.calls 3000 ex A1 c1 hs A2 c2 cs 0 W4 m1.out h1.out m2.out h2.out ef.out).mono ?_
  rintro e W5 ⟨rfl, hb⟩
  have HB : Aside0 (Below W4.heap.size W4 W5) := ⟨hb⟩
  replace HT := Aside0.mk (HT.out.trans (HB.out.mono HT.out.size))
  replace m1 := Aside0.mk (Kd.C_below m1.out HB.out)
  replace m2 := Aside0.mk (Kd.C_below m2.out HB.out)
  replace b0 := Aside0.mk (pw_cell_below HB.out b0.out)
  replace b1 := Aside0.mk (pw_cell_below HB.out b1.out)
  replace b2 := Aside0.mk (pw_cell_below HB.out b2.out)
  replace Mn := Aside0.mk (Kd.C_below Mn.out HB.out)
  clear HB
  clear hb
  have rb0 := b0.out
  have rb1 := b1.out
  have rb2 := b2.out
  go_wp2_with fail
  clear rb0
  clear rb1
  clear rb2
  refine (contangoref11_Leave.calls ex A1 c1 hs A2 c2 cs l W5 m1.out h1.out m2.out h2.out er.out).mono ?_
  rintro e W6 ⟨va, rfl, hra, hb⟩
  have HB : Aside0 (Below W5.heap.size W5 W6) := ⟨hb⟩
  replace HT := Aside0.mk (HT.out.trans (HB.out.mono HT.out.size))
  replace m1 := Aside0.mk (Kd.C_below m1.out HB.out)
  replace m2 := Aside0.mk (Kd.C_below m2.out HB.out)
  replace b0 := Aside0.mk (pw_cell_below HB.out b0.out)
  replace b1 := Aside0.mk (pw_cell_below HB.out b1.out)
  replace b2 := Aside0.mk (pw_cell_below HB.out b2.out)
  replace Mn := Aside0.mk (Kd.C_below Mn.out HB.out)
  clear HB
  obtain ⟨Aa, ca, rfl, hc, hC⟩ := Kd.R_reads hra
  have Ma := Aside0.mk hC
  have La := Aside0.mk hc
  clear hc hC hra
  clear hb
  have rb0 := b0.out
  have rb1 := b1.out
  have rb2 := b2.out
  go_wp2_with fail
  clear rb0
  clear rb1
  clear rb2
  refine (contangoref11_Same.calls 3000 An cn l Aa ca l true W6 Mn.out Ln.out Ma.out La.out es.out).mono ?_
  rintro e W7 ⟨rfl, hb⟩
  have HB : Aside0 (Below W6.heap.size W6 W7) := ⟨hb.below⟩
  replace HT := Aside0.mk (HT.out.trans (HB.out.mono HT.out.size))
  replace m1 := Aside0.mk (Kd.C_below m1.out HB.out)
  replace m2 := Aside0.mk (Kd.C_below m2.out HB.out)
  replace b0 := Aside0.mk (pw_cell_below HB.out b0.out)
  replace b1 := Aside0.mk (pw_cell_below HB.out b1.out)
  replace b2 := Aside0.mk (pw_cell_below HB.out b2.out)
  replace Mn := Aside0.mk (Kd.C_below Mn.out HB.out)
  replace Ma := Aside0.mk (Kd.C_below Ma.out HB.out)
  clear HB
  clear hb
  have rb0 := b0.out
  have rb1 := b1.out
  have rb2 := b2.out
  go_wp2_with fail
  clear rb0
  clear rb1
  clear rb2
  refine (contangolaw11_awake.calls true W7 rfl).mono ?_
  rintro e W8 ⟨rfl, hb⟩
  have HB : Aside0 (Below W7.heap.size W7 W8) := ⟨hb⟩
  replace HT := Aside0.mk (HT.out.trans (HB.out.mono HT.out.size))
  replace m1 := Aside0.mk (Kd.C_below m1.out HB.out)
  replace m2 := Aside0.mk (Kd.C_below m2.out HB.out)
  replace b0 := Aside0.mk (pw_cell_below HB.out b0.out)
  replace b1 := Aside0.mk (pw_cell_below HB.out b1.out)
  replace b2 := Aside0.mk (pw_cell_below HB.out b2.out)
  replace Mn := Aside0.mk (Kd.C_below Mn.out HB.out)
  replace Ma := Aside0.mk (Kd.C_below Ma.out HB.out)
  clear HB
  clear hb
  have rb0 := b0.out
  have rb1 := b1.out
  have rb2 := b2.out
  go_wp2_with fail
  clear rb0
  clear rb1
  clear rb2
  go_ret
  exact ⟨rfl, HT.out⟩
theorem law6 (ex : Int) (A1 : Option Addr) (c1 : Nat) (hs : List S88) (A2 : Option Addr) (c2 : Nat) (cs : List S101) (w : World) (m1 : Kd.C k88 w A1 hs.length hs) (h1 : hs.length ≤ c1) (m2 : Kd.C k101 w A2 cs.length cs) (h2 : cs.length ≤ c2) :
    Calls Try.prog 6 #[.agg #[.int .i64 ex, .slice A1 hs.length c1, .slice A2 cs.length c2]] w fun e w' => e = .returned (.bool true) ∧ Below w.heap.size w w' := by
  by_cases hT : hs.length ≤ 9 ∧ cs.length ≤ 11
  · obtain ⟨T1, T2⟩ := hT
    have em := market_f 3000 ex hs cs (by omega) (by omega) (by omega)
    have ef := lfault_f 3000 ex hs cs (by omega) (by omega) (by omega)
    have eT := thin_yes ex hs cs [] T1 T2 (by simp)
    by_cases h0 : ck ex (hs.map cvH) (cs.map cvC) = 0
    · rw [h0] at ef
      obtain ⟨l, e1, e2, e3⟩ := leave_f ex hs cs h0
      exact law6_yes ex A1 c1 hs A2 c2 cs _ _ l w m1 h1 m2 h2 eT em e2 ef e1 (same_f 3000 l (by omega) (by omega))
    · exact law6_bad ex A1 c1 hs A2 c2 cs _ _ _ h0 w m1 h1 m2 h2 eT em (leave_bad _ _ _ h0) ef
  · exact law6_thin ex A1 c1 hs A2 c2 cs w m1 h1 m2 h2 (thin_no ex hs cs [] (by simpa using hT))
end Go.Proofs.Ytgjifkegfbpjkaa.Q
end
