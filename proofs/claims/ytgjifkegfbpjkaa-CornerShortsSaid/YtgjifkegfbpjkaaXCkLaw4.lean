/- The law CornerShorts walked. -/
import Derived.Test.YtgjifkegfbpjkaaXCkAsked
import Derived.Test.YtgjifkegfbpjkaaXCkThin
import Derived.Test.YtgjifkegfbpjkaaXCkAwake
import Derived.Test.YtgjifkegfbpjkaaXQf34
section
namespace Go.Proofs.Ytgjifkegfbpjkaa.Q
set_option linter.unusedVariables false
set_option linter.unusedSimpArgs false
open Go.RowKit Go.Maps Go.Proofs.YtgjifkegfbpjkaaW.PrintWords Go.Proofs.YtgjifkegfbpjkaaW.PrintLast Go.Proofs.YtgjifkegfbpjkaaW.PrintMore
set_option maxHeartbeats 4000000 in
set_option maxRecDepth 100000 in
theorem law4_thin (ex : Int) (A1 : Option Addr) (c1 : Nat) (hs : List S88) (A2 : Option Addr) (c2 : Nat) (cs : List S101) (up : Bool) (w : World) (m1 : Kd.C k88 w A1 hs.length hs) (h1 : hs.length ≤ c1) (m2 : Kd.C k101 w A2 cs.length cs) (h2 : cs.length ≤ c2) (efew : contangolaw11_few.f 3000 ex hs cs 3000 = some false) :
    Calls Try.prog 4 #[.agg #[.int .i64 ex, .slice A1 hs.length c1, .slice A2 cs.length c2], .bool up] w fun e w' => e = .returned (.bool true) ∧ Below w.heap.size w w' := by
  replace m1 := Aside0.mk m1
  replace h1 := Aside0.mk h1
  replace m2 := Aside0.mk m2
  replace h2 := Aside0.mk h2
  replace efew := Aside0.mk efew
  have HT : Aside0 (Below w.heap.size w w) := ⟨Below.refl _ _⟩
  go_enter Try.func4, Try.ntmps4
  go_wp2_with fail
  obtain ⟨W1, HW⟩ : ∃ W, Aside0 (w.alloc (.cells #[.int .i64 ex, .slice A1 hs.length c1, .slice A2 cs.length c2] 25) = W) := ⟨_, ⟨rfl⟩⟩
  have b0 : Aside0 (W1.cell? ⟨w.heap.size, 0, none⟩ = some (.int .i64 ex)) := ⟨by rw [← HW.out]; simp⟩
  have b1 : Aside0 (W1.cell? ⟨w.heap.size, 1, none⟩ = some (.slice A1 hs.length c1)) := ⟨by rw [← HW.out]; simp⟩
  have b2 : Aside0 (W1.cell? ⟨w.heap.size, 2, none⟩ = some (.slice A2 cs.length c2)) := ⟨by rw [← HW.out]; simp⟩
  have HB : Aside0 (Below w.heap.size w W1) := ⟨by rw [← HW.out]; exact (Below.refl _ _).alloc (Nat.le_refl _) _⟩
  replace HT := Aside0.mk (HT.out.trans (HB.out.mono HT.out.size))
  replace m1 := Aside0.mk (Kd.C_below m1.out HB.out)
  replace m2 := Aside0.mk (Kd.C_below m2.out HB.out)
  clear HB
  rw [HW.out]
  clear HW
  have rb0 := b0.out
  have rb1 := b1.out
  have rb2 := b2.out
  go_wp2_with fail
  clear rb0
  clear rb1
  clear rb2
  refine (contangolaw11_few.calls 3000 ex A1 c1 hs A2 c2 cs 3000 false W1 m1.out h1.out m2.out h2.out efew.out).mono ?_
  rintro e W2 ⟨rfl, hb⟩
  have HB : Aside0 (Below W1.heap.size W1 W2) := ⟨hb⟩
  replace HT := Aside0.mk (HT.out.trans (HB.out.mono HT.out.size))
  replace m1 := Aside0.mk (Kd.C_below m1.out HB.out)
  replace m2 := Aside0.mk (Kd.C_below m2.out HB.out)
  replace b0 := Aside0.mk (pw_cell_below HB.out b0.out)
  replace b1 := Aside0.mk (pw_cell_below HB.out b1.out)
  replace b2 := Aside0.mk (pw_cell_below HB.out b2.out)
  clear HB
  clear hb
  have rb0 := b0.out
  have rb1 := b1.out
  have rb2 := b2.out
  go_wp2_with fail
  clear rb0
  clear rb1
  clear rb2
  refine (contangolaw11_awake.calls true W2 rfl).mono ?_
  rintro e W3 ⟨rfl, hb⟩
  have HB : Aside0 (Below W2.heap.size W2 W3) := ⟨hb⟩
  replace HT := Aside0.mk (HT.out.trans (HB.out.mono HT.out.size))
  replace m1 := Aside0.mk (Kd.C_below m1.out HB.out)
  replace m2 := Aside0.mk (Kd.C_below m2.out HB.out)
  replace b0 := Aside0.mk (pw_cell_below HB.out b0.out)
  replace b1 := Aside0.mk (pw_cell_below HB.out b1.out)
  replace b2 := Aside0.mk (pw_cell_below HB.out b2.out)
  clear HB
  clear hb
  have rb0 := b0.out
  have rb1 := b1.out
  have rb2 := b2.out
  go_wp2_with fail
  clear rb0
  clear rb1
  clear rb2
  go_ret
  exact ⟨rfl, HT.out⟩
set_option maxHeartbeats 4000000 in
set_option maxRecDepth 100000 in
theorem law4_bad (ex : Int) (A1 : Option Addr) (c1 : Nat) (hs : List S88) (A2 : Option Addr) (c2 : Nat) (cs : List S101) (H : List S73) (C : List S75) (k0 : Int) (hk0 : k0 ≠ 0) (up : Bool) (w : World) (m1 : Kd.C k88 w A1 hs.length hs) (h1 : hs.length ≤ c1) (m2 : Kd.C k101 w A2 cs.length cs) (h2 : cs.length ≤ c2) (efew : contangolaw11_few.f 3000 ex hs cs 3000 = some true) (em : contangolaw11_Market.f 3000 ex hs cs = some (ex, H, C)) (es : corner_Shortage.f ex H C = some (0, 0, k0)) (eh : corner_Show.f ex H C up = some ([], k0)) (ec : corner_Cornered.f ex H C = some (false, false, k0)) (ef : contangolaw11_fault.f 3000 ex hs cs = some k0) :
    Calls Try.prog 4 #[.agg #[.int .i64 ex, .slice A1 hs.length c1, .slice A2 cs.length c2], .bool up] w fun e w' => e = .returned (.bool true) ∧ Below w.heap.size w w' := by
  replace m1 := Aside0.mk m1
  replace h1 := Aside0.mk h1
  replace m2 := Aside0.mk m2
  replace h2 := Aside0.mk h2
  replace efew := Aside0.mk efew
  replace em := Aside0.mk em
  replace es := Aside0.mk es
  replace eh := Aside0.mk eh
  replace ec := Aside0.mk ec
  replace ef := Aside0.mk ef
  have HT : Aside0 (Below w.heap.size w w) := ⟨Below.refl _ _⟩
  go_enter Try.func4, Try.ntmps4
  go_wp2_with fail
  have heq := fun w => eqA46 9998 w 0 0 0 0
  have d1 : (k0 == 0) = false := beq_eq_false_iff_ne.2 hk0
  have d2 : decide (k0 = 0) = false := decide_eq_false hk0
  obtain ⟨W1, HW⟩ : ∃ W, Aside0 (w.alloc (.cells #[.int .i64 ex, .slice A1 hs.length c1, .slice A2 cs.length c2] 25) = W) := ⟨_, ⟨rfl⟩⟩
  have b : Aside0 (W1.heap[w.heap.size]? = some (.cells #[.int .i64 ex, .slice A1 hs.length c1, .slice A2 cs.length c2] 25)) := ⟨by rw [← HW.out]; exact heap_alloc_new w _⟩
  have HB : Aside0 (Below w.heap.size w W1) := ⟨by rw [← HW.out]; exact (Below.refl _ _).alloc (Nat.le_refl _) _⟩
  replace HT := Aside0.mk (HT.out.trans (HB.out.mono HT.out.size))
  replace m1 := Aside0.mk (Kd.C_below m1.out HB.out)
  replace m2 := Aside0.mk (Kd.C_below m2.out HB.out)
  clear HB
  rw [HW.out]
  clear HW
  have rb0 : W1.cell? ⟨w.heap.size, 0, none⟩ = some (.int .i64 ex) := (blk_cell b.out 0).trans rfl
  have fb0 := blk_frozen b.out 0
  have rb1 : W1.cell? ⟨w.heap.size, 1, none⟩ = some (.slice A1 hs.length c1) := (blk_cell b.out 1).trans rfl
  have fb1 := blk_frozen b.out 1
  have rb2 : W1.cell? ⟨w.heap.size, 2, none⟩ = some (.slice A2 cs.length c2) := (blk_cell b.out 2).trans rfl
  have fb2 := blk_frozen b.out 2
  go_wp2_with fail
  clear rb0 fb0 rb1 fb1 rb2 fb2
  refine (contangolaw11_few.calls 3000 ex A1 c1 hs A2 c2 cs 3000 true W1 m1.out h1.out m2.out h2.out efew.out).mono ?_
  rintro e W2 ⟨rfl, hb⟩
  have HB : Aside0 (Below W1.heap.size W1 W2) := ⟨hb⟩
  replace HT := Aside0.mk (HT.out.trans (HB.out.mono HT.out.size))
  replace m1 := Aside0.mk (Kd.C_below m1.out HB.out)
  replace m2 := Aside0.mk (Kd.C_below m2.out HB.out)
  replace b := Aside0.mk (blk_below HB.out b.out)
  clear HB
  clear hb
  have rb0 : W2.cell? ⟨w.heap.size, 0, none⟩ = some (.int .i64 ex) := (blk_cell b.out 0).trans rfl
  have fb0 := blk_frozen b.out 0
  have rb1 : W2.cell? ⟨w.heap.size, 1, none⟩ = some (.slice A1 hs.length c1) := (blk_cell b.out 1).trans rfl
  have fb1 := blk_frozen b.out 1
  have rb2 : W2.cell? ⟨w.heap.size, 2, none⟩ = some (.slice A2 cs.length c2) := (blk_cell b.out 2).trans rfl
  have fb2 := blk_frozen b.out 2
  go_wp2_with fail
  clear rb0 fb0 rb1 fb1 rb2 fb2
  refine (contangolaw11_Market.calls 3000 ex A1 c1 hs A2 c2 cs ex H C W2 m1.out h1.out m2.out h2.out em.out).mono ?_
  rintro e W3 ⟨vh, vc, rfl, hrh, hrc, hb⟩
  have HB : Aside0 (Below W2.heap.size W2 W3) := ⟨hb⟩
  replace HT := Aside0.mk (HT.out.trans (HB.out.mono HT.out.size))
  replace m1 := Aside0.mk (Kd.C_below m1.out HB.out)
  replace m2 := Aside0.mk (Kd.C_below m2.out HB.out)
  replace b := Aside0.mk (blk_below HB.out b.out)
  clear HB
  obtain ⟨Ah, ch, rfl, hc, hC⟩ := Kd.R_reads hrh
  have Mh := Aside0.mk hC
  have Lh := Aside0.mk hc
  clear hc hC hrh
  obtain ⟨Ac, cc, rfl, hc, hC⟩ := Kd.R_reads hrc
  have Mc := Aside0.mk hC
  have Lc := Aside0.mk hc
  clear hc hC hrc
  clear hb
  have rb0 : W3.cell? ⟨w.heap.size, 0, none⟩ = some (.int .i64 ex) := (blk_cell b.out 0).trans rfl
  have fb0 := blk_frozen b.out 0
  have rb1 : W3.cell? ⟨w.heap.size, 1, none⟩ = some (.slice A1 hs.length c1) := (blk_cell b.out 1).trans rfl
  have fb1 := blk_frozen b.out 1
  have rb2 : W3.cell? ⟨w.heap.size, 2, none⟩ = some (.slice A2 cs.length c2) := (blk_cell b.out 2).trans rfl
  have fb2 := blk_frozen b.out 2
  go_wp2_with fail
  clear rb0 fb0 rb1 fb1 rb2 fb2
  refine (corner_Shortage.calls ex Ah ch H Ac cc C 0 0 k0 W3 Mh.out Lh.out Mc.out Lc.out es.out).mono ?_
  rintro e W4 ⟨rfl, hb⟩
  have HB : Aside0 (Below W3.heap.size W3 W4) := ⟨hb⟩
  replace HT := Aside0.mk (HT.out.trans (HB.out.mono HT.out.size))
  replace m1 := Aside0.mk (Kd.C_below m1.out HB.out)
  replace m2 := Aside0.mk (Kd.C_below m2.out HB.out)
  replace b := Aside0.mk (blk_below HB.out b.out)
  replace Mh := Aside0.mk (Kd.C_below Mh.out HB.out)
  replace Mc := Aside0.mk (Kd.C_below Mc.out HB.out)
  clear HB
  clear hb
  have rb0 : W4.cell? ⟨w.heap.size, 0, none⟩ = some (.int .i64 ex) := (blk_cell b.out 0).trans rfl
  have fb0 := blk_frozen b.out 0
  have rb1 : W4.cell? ⟨w.heap.size, 1, none⟩ = some (.slice A1 hs.length c1) := (blk_cell b.out 1).trans rfl
  have fb1 := blk_frozen b.out 1
  have rb2 : W4.cell? ⟨w.heap.size, 2, none⟩ = some (.slice A2 cs.length c2) := (blk_cell b.out 2).trans rfl
  have fb2 := blk_frozen b.out 2
  have ab0 : ∀ o, (W4.alloc o).cell? ⟨w.heap.size, 0, none⟩ = some (.int .i64 ex) := fun o => (blk_cell (blk_old b.out o) 0).trans rfl
  have ab1 : ∀ o, (W4.alloc o).cell? ⟨w.heap.size, 1, none⟩ = some (.slice A1 hs.length c1) := fun o => (blk_cell (blk_old b.out o) 1).trans rfl
  have ab2 : ∀ o, (W4.alloc o).cell? ⟨w.heap.size, 2, none⟩ = some (.slice A2 cs.length c2) := fun o => (blk_cell (blk_old b.out o) 2).trans rfl
  go_wp2_with fail
  clear rb0 fb0 rb1 fb1 rb2 fb2 ab0 ab1 ab2
  obtain ⟨W5, HW⟩ : ∃ W, Aside0 (W4.alloc (.cells #[.int .i64 0, .int .i64 0] 46) = W) := ⟨_, ⟨rfl⟩⟩
  have Nbr : Aside0 (w.heap.size ≠ W4.heap.size) := ⟨Nat.ne_of_lt (blk_lt b.out)⟩
  have Nrb : Aside0 (W4.heap.size ≠ w.heap.size) := ⟨Nat.ne_of_gt (blk_lt b.out)⟩
  have r : Aside0 (W5.heap[W4.heap.size]? = some (.cells #[.int .i64 0, .int .i64 0] 46)) := ⟨by rw [← HW.out]; exact heap_alloc_new W4 _⟩
  have HB : Aside0 (Below W4.heap.size W4 W5) := ⟨by rw [← HW.out]; exact (Below.refl _ _).alloc (Nat.le_refl _) _⟩
  replace HT := Aside0.mk (HT.out.trans (HB.out.mono HT.out.size))
  replace m1 := Aside0.mk (Kd.C_below m1.out HB.out)
  replace m2 := Aside0.mk (Kd.C_below m2.out HB.out)
  replace b := Aside0.mk (blk_below HB.out b.out)
  replace Mh := Aside0.mk (Kd.C_below Mh.out HB.out)
  replace Mc := Aside0.mk (Kd.C_below Mc.out HB.out)
  clear HB
  rw [HW.out]
  clear HW
  clear Mh Mc
  have rb0 : W5.cell? ⟨w.heap.size, 0, none⟩ = some (.int .i64 ex) := (blk_cell b.out 0).trans rfl
  have fb0 := blk_frozen b.out 0
  have rb1 : W5.cell? ⟨w.heap.size, 1, none⟩ = some (.slice A1 hs.length c1) := (blk_cell b.out 1).trans rfl
  have fb1 := blk_frozen b.out 1
  have rb2 : W5.cell? ⟨w.heap.size, 2, none⟩ = some (.slice A2 cs.length c2) := (blk_cell b.out 2).trans rfl
  have fb2 := blk_frozen b.out 2
  have rr0 : W5.cell? ⟨W4.heap.size, 0, none⟩ = some (.int .i64 0) := (blk_cell r.out 0).trans rfl
  have fr0 := blk_frozen r.out 0
  have rr1 : W5.cell? ⟨W4.heap.size, 1, none⟩ = some (.int .i64 0) := (blk_cell r.out 1).trans rfl
  have fr1 := blk_frozen r.out 1
  have rNbr := Nbr.out
  have rNrb := Nrb.out
  go_wp2_with fail
  clear rb0 fb0 rb1 fb1 rb2 fb2 rr0 fr0 rr1 fr1 rNbr rNrb
  refine (contangolaw11_Market.calls 3000 ex A1 c1 hs A2 c2 cs ex H C W5 m1.out h1.out m2.out h2.out em.out).mono ?_
  rintro e W6 ⟨vh, vc, rfl, hrh, hrc, hb⟩
  have HB : Aside0 (Below W5.heap.size W5 W6) := ⟨hb⟩
  replace HT := Aside0.mk (HT.out.trans (HB.out.mono HT.out.size))
  replace m1 := Aside0.mk (Kd.C_below m1.out HB.out)
  replace m2 := Aside0.mk (Kd.C_below m2.out HB.out)
  replace b := Aside0.mk (blk_below HB.out b.out)
  replace r := Aside0.mk (blk_below HB.out r.out)
  clear HB
  obtain ⟨Ah, ch, rfl, hc, hC⟩ := Kd.R_reads hrh
  have Mh := Aside0.mk hC
  have Lh := Aside0.mk hc
  clear hc hC hrh
  obtain ⟨Ac, cc, rfl, hc, hC⟩ := Kd.R_reads hrc
  have Mc := Aside0.mk hC
  have Lc := Aside0.mk hc
  clear hc hC hrc
  clear hb
  have rb0 : W6.cell? ⟨w.heap.size, 0, none⟩ = some (.int .i64 ex) := (blk_cell b.out 0).trans rfl
  have fb0 := blk_frozen b.out 0
  have rb1 : W6.cell? ⟨w.heap.size, 1, none⟩ = some (.slice A1 hs.length c1) := (blk_cell b.out 1).trans rfl
  have fb1 := blk_frozen b.out 1
  have rb2 : W6.cell? ⟨w.heap.size, 2, none⟩ = some (.slice A2 cs.length c2) := (blk_cell b.out 2).trans rfl
  have fb2 := blk_frozen b.out 2
  have rr0 : W6.cell? ⟨W4.heap.size, 0, none⟩ = some (.int .i64 0) := (blk_cell r.out 0).trans rfl
  have fr0 := blk_frozen r.out 0
  have rr1 : W6.cell? ⟨W4.heap.size, 1, none⟩ = some (.int .i64 0) := (blk_cell r.out 1).trans rfl
  have fr1 := blk_frozen r.out 1
  have rNbr := Nbr.out
  have rNrb := Nrb.out
  go_wp2_with fail
  clear rb0 fb0 rb1 fb1 rb2 fb2 rr0 fr0 rr1 fr1 rNbr rNrb
  refine (corner_Show.calls ex Ah ch H Ac cc C up [] k0 W6 Mh.out Lh.out Mc.out Lc.out eh.out).mono ?_
  rintro e W7 ⟨vn, rfl, hrn, hb⟩
  have HB : Aside0 (Below W6.heap.size W6 W7) := ⟨hb⟩
  replace HT := Aside0.mk (HT.out.trans (HB.out.mono HT.out.size))
  replace m1 := Aside0.mk (Kd.C_below m1.out HB.out)
  replace m2 := Aside0.mk (Kd.C_below m2.out HB.out)
  replace b := Aside0.mk (blk_below HB.out b.out)
  replace r := Aside0.mk (blk_below HB.out r.out)
  replace Mh := Aside0.mk (Kd.C_below Mh.out HB.out)
  replace Mc := Aside0.mk (Kd.C_below Mc.out HB.out)
  clear HB
  obtain ⟨An, cn, rfl, hc, hC⟩ := Kd.R_reads hrn
  have Mn := Aside0.mk hC
  have Ln := Aside0.mk hc
  clear hc hC hrn
  clear hb
  have rb0 : W7.cell? ⟨w.heap.size, 0, none⟩ = some (.int .i64 ex) := (blk_cell b.out 0).trans rfl
  have fb0 := blk_frozen b.out 0
  have rb1 : W7.cell? ⟨w.heap.size, 1, none⟩ = some (.slice A1 hs.length c1) := (blk_cell b.out 1).trans rfl
  have fb1 := blk_frozen b.out 1
  have rb2 : W7.cell? ⟨w.heap.size, 2, none⟩ = some (.slice A2 cs.length c2) := (blk_cell b.out 2).trans rfl
  have fb2 := blk_frozen b.out 2
  have rr0 : W7.cell? ⟨W4.heap.size, 0, none⟩ = some (.int .i64 0) := (blk_cell r.out 0).trans rfl
  have fr0 := blk_frozen r.out 0
  have rr1 : W7.cell? ⟨W4.heap.size, 1, none⟩ = some (.int .i64 0) := (blk_cell r.out 1).trans rfl
  have fr1 := blk_frozen r.out 1
  have rNbr := Nbr.out
  have rNrb := Nrb.out
  go_wp2_with fail
  clear rb0 fb0 rb1 fb1 rb2 fb2 rr0 fr0 rr1 fr1 rNbr rNrb
  clear Mh Mc
  refine (contangolaw11_Market.calls 3000 ex A1 c1 hs A2 c2 cs ex H C W7 m1.out h1.out m2.out h2.out em.out).mono ?_
  rintro e W8 ⟨vh, vc, rfl, hrh, hrc, hb⟩
  have HB : Aside0 (Below W7.heap.size W7 W8) := ⟨hb⟩
  replace HT := Aside0.mk (HT.out.trans (HB.out.mono HT.out.size))
  replace m1 := Aside0.mk (Kd.C_below m1.out HB.out)
  replace m2 := Aside0.mk (Kd.C_below m2.out HB.out)
  replace b := Aside0.mk (blk_below HB.out b.out)
  replace r := Aside0.mk (blk_below HB.out r.out)
  replace Mn := Aside0.mk (Kd.C_below Mn.out HB.out)
  clear HB
  obtain ⟨Ah, ch, rfl, hc, hC⟩ := Kd.R_reads hrh
  have Mh := Aside0.mk hC
  have Lh := Aside0.mk hc
  clear hc hC hrh
  obtain ⟨Ac, cc, rfl, hc, hC⟩ := Kd.R_reads hrc
  have Mc := Aside0.mk hC
  have Lc := Aside0.mk hc
  clear hc hC hrc
  clear hb
  have rb0 : W8.cell? ⟨w.heap.size, 0, none⟩ = some (.int .i64 ex) := (blk_cell b.out 0).trans rfl
  have fb0 := blk_frozen b.out 0
  have rb1 : W8.cell? ⟨w.heap.size, 1, none⟩ = some (.slice A1 hs.length c1) := (blk_cell b.out 1).trans rfl
  have fb1 := blk_frozen b.out 1
  have rb2 : W8.cell? ⟨w.heap.size, 2, none⟩ = some (.slice A2 cs.length c2) := (blk_cell b.out 2).trans rfl
  have fb2 := blk_frozen b.out 2
  have rr0 : W8.cell? ⟨W4.heap.size, 0, none⟩ = some (.int .i64 0) := (blk_cell r.out 0).trans rfl
  have fr0 := blk_frozen r.out 0
  have rr1 : W8.cell? ⟨W4.heap.size, 1, none⟩ = some (.int .i64 0) := (blk_cell r.out 1).trans rfl
  have fr1 := blk_frozen r.out 1
  have rNbr := Nbr.out
  have rNrb := Nrb.out
  go_wp2_with fail
  clear rb0 fb0 rb1 fb1 rb2 fb2 rr0 fr0 rr1 fr1 rNbr rNrb
  refine (corner_Cornered.calls ex Ah ch H Ac cc C false false k0 W8 Mh.out Lh.out Mc.out Lc.out ec.out).mono ?_
  rintro e W9 ⟨rfl, hb⟩
  have HB : Aside0 (Below W8.heap.size W8 W9) := ⟨hb⟩
  replace HT := Aside0.mk (HT.out.trans (HB.out.mono HT.out.size))
  replace m1 := Aside0.mk (Kd.C_below m1.out HB.out)
  replace m2 := Aside0.mk (Kd.C_below m2.out HB.out)
  replace b := Aside0.mk (blk_below HB.out b.out)
  replace r := Aside0.mk (blk_below HB.out r.out)
  replace Mn := Aside0.mk (Kd.C_below Mn.out HB.out)
  replace Mh := Aside0.mk (Kd.C_below Mh.out HB.out)
  replace Mc := Aside0.mk (Kd.C_below Mc.out HB.out)
  clear HB
  clear hb
  have rb0 : W9.cell? ⟨w.heap.size, 0, none⟩ = some (.int .i64 ex) := (blk_cell b.out 0).trans rfl
  have fb0 := blk_frozen b.out 0
  have rb1 : W9.cell? ⟨w.heap.size, 1, none⟩ = some (.slice A1 hs.length c1) := (blk_cell b.out 1).trans rfl
  have fb1 := blk_frozen b.out 1
  have rb2 : W9.cell? ⟨w.heap.size, 2, none⟩ = some (.slice A2 cs.length c2) := (blk_cell b.out 2).trans rfl
  have fb2 := blk_frozen b.out 2
  have rr0 : W9.cell? ⟨W4.heap.size, 0, none⟩ = some (.int .i64 0) := (blk_cell r.out 0).trans rfl
  have fr0 := blk_frozen r.out 0
  have rr1 : W9.cell? ⟨W4.heap.size, 1, none⟩ = some (.int .i64 0) := (blk_cell r.out 1).trans rfl
  have fr1 := blk_frozen r.out 1
  have rNbr := Nbr.out
  have rNrb := Nrb.out
  go_wp2_with fail
  clear rb0 fb0 rb1 fb1 rb2 fb2 rr0 fr0 rr1 fr1 rNbr rNrb
  clear Mh Mc
  refine (contangolaw11_fault.calls 3000 ex A1 c1 hs A2 c2 cs k0 W9 m1.out h1.out m2.out h2.out ef.out).mono ?_
  rintro e W10 ⟨rfl, hb⟩
  have HB : Aside0 (Below W9.heap.size W9 W10) := ⟨hb⟩
  replace HT := Aside0.mk (HT.out.trans (HB.out.mono HT.out.size))
  replace m1 := Aside0.mk (Kd.C_below m1.out HB.out)
  replace m2 := Aside0.mk (Kd.C_below m2.out HB.out)
  replace b := Aside0.mk (blk_below HB.out b.out)
  replace r := Aside0.mk (blk_below HB.out r.out)
  replace Mn := Aside0.mk (Kd.C_below Mn.out HB.out)
  clear HB
  clear hb
  have rb0 : W10.cell? ⟨w.heap.size, 0, none⟩ = some (.int .i64 ex) := (blk_cell b.out 0).trans rfl
  have fb0 := blk_frozen b.out 0
  have rb1 : W10.cell? ⟨w.heap.size, 1, none⟩ = some (.slice A1 hs.length c1) := (blk_cell b.out 1).trans rfl
  have fb1 := blk_frozen b.out 1
  have rb2 : W10.cell? ⟨w.heap.size, 2, none⟩ = some (.slice A2 cs.length c2) := (blk_cell b.out 2).trans rfl
  have fb2 := blk_frozen b.out 2
  have rr0 : W10.cell? ⟨W4.heap.size, 0, none⟩ = some (.int .i64 0) := (blk_cell r.out 0).trans rfl
  have fr0 := blk_frozen r.out 0
  have rr1 : W10.cell? ⟨W4.heap.size, 1, none⟩ = some (.int .i64 0) := (blk_cell r.out 1).trans rfl
  have fr1 := blk_frozen r.out 1
  have rNbr := Nbr.out
  have rNrb := Nrb.out
  have ab0 : ∀ o, (W10.alloc o).cell? ⟨w.heap.size, 0, none⟩ = some (.int .i64 ex) := fun o => (blk_cell (blk_old b.out o) 0).trans rfl
  have ab1 : ∀ o, (W10.alloc o).cell? ⟨w.heap.size, 1, none⟩ = some (.slice A1 hs.length c1) := fun o => (blk_cell (blk_old b.out o) 1).trans rfl
  have ab2 : ∀ o, (W10.alloc o).cell? ⟨w.heap.size, 2, none⟩ = some (.slice A2 cs.length c2) := fun o => (blk_cell (blk_old b.out o) 2).trans rfl
  have ar0 : ∀ o, (W10.alloc o).cell? ⟨W4.heap.size, 0, none⟩ = some (.int .i64 0) := fun o => (blk_cell (blk_old r.out o) 0).trans rfl
  have ar1 : ∀ o, (W10.alloc o).cell? ⟨W4.heap.size, 1, none⟩ = some (.int .i64 0) := fun o => (blk_cell (blk_old r.out o) 1).trans rfl
  go_wp2_with fail
  clear rb0 fb0 rb1 fb1 rb2 fb2 rr0 fr0 rr1 fr1 rNbr rNrb ab0 ab1 ab2 ar0 ar1
  obtain ⟨W11, HW⟩ : ∃ W, Aside0 (W10.alloc (.cells #[.int .i64 0, .int .i64 0] 53) = W) := ⟨_, ⟨rfl⟩⟩
  have Nbd : Aside0 (w.heap.size ≠ W10.heap.size) := ⟨Nat.ne_of_lt (blk_lt b.out)⟩
  have Ndb : Aside0 (W10.heap.size ≠ w.heap.size) := ⟨Nat.ne_of_gt (blk_lt b.out)⟩
  have Nrd : Aside0 (W4.heap.size ≠ W10.heap.size) := ⟨Nat.ne_of_lt (blk_lt r.out)⟩
  have Ndr : Aside0 (W10.heap.size ≠ W4.heap.size) := ⟨Nat.ne_of_gt (blk_lt r.out)⟩
  have HTd : Aside0 (Below W10.heap.size W10 W10) := ⟨Below.refl _ _⟩
  have m1_d := m1
  have m2_d := m2
  have b_d := b
  have r_d := r
  have Mn_d := Mn
  have HLd : Aside0 (Below w.heap.size w W10) := HT
  have d : Aside0 (W11.heap[W10.heap.size]? = some (.cells #[.int .i64 0, .int .i64 0] 53)) := ⟨by rw [← HW.out]; exact heap_alloc_new W10 _⟩
  have HB : Aside0 (Below W10.heap.size W10 W11) := ⟨by rw [← HW.out]; exact (Below.refl _ _).alloc (Nat.le_refl _) _⟩
  replace HT := Aside0.mk (HT.out.trans (HB.out.mono HT.out.size))
  replace HTd := Aside0.mk (HTd.out.trans (HB.out.mono HTd.out.size))
  replace m1 := Aside0.mk (Kd.C_below m1.out HB.out)
  replace m2 := Aside0.mk (Kd.C_below m2.out HB.out)
  replace b := Aside0.mk (blk_below HB.out b.out)
  replace r := Aside0.mk (blk_below HB.out r.out)
  replace Mn := Aside0.mk (Kd.C_below Mn.out HB.out)
  clear HB
  rw [HW.out]
  clear HW
  have rb0 : W11.cell? ⟨w.heap.size, 0, none⟩ = some (.int .i64 ex) := (blk_cell b.out 0).trans rfl
  have fb0 := blk_frozen b.out 0
  have rb1 : W11.cell? ⟨w.heap.size, 1, none⟩ = some (.slice A1 hs.length c1) := (blk_cell b.out 1).trans rfl
  have fb1 := blk_frozen b.out 1
  have rb2 : W11.cell? ⟨w.heap.size, 2, none⟩ = some (.slice A2 cs.length c2) := (blk_cell b.out 2).trans rfl
  have fb2 := blk_frozen b.out 2
  have rr0 : W11.cell? ⟨W4.heap.size, 0, none⟩ = some (.int .i64 0) := (blk_cell r.out 0).trans rfl
  have fr0 := blk_frozen r.out 0
  have rr1 : W11.cell? ⟨W4.heap.size, 1, none⟩ = some (.int .i64 0) := (blk_cell r.out 1).trans rfl
  have fr1 := blk_frozen r.out 1
  have rd0 : W11.cell? ⟨W10.heap.size, 0, none⟩ = some (.int .i64 0) := (blk_cell d.out 0).trans rfl
  have fd0 := blk_frozen d.out 0
  have rd1 : W11.cell? ⟨W10.heap.size, 1, none⟩ = some (.int .i64 0) := (blk_cell d.out 1).trans rfl
  have fd1 := blk_frozen d.out 1
  have rNbr := Nbr.out
  have rNrb := Nrb.out
  have rNbd := Nbd.out
  have rNdb := Ndb.out
  have rNrd := Nrd.out
  have rNdr := Ndr.out
  go_wp2_with fail
  clear rb0 fb0 rb1 fb1 rb2 fb2 rr0 fr0 rr1 fr1 rd0 fd0 rd1 fd1 rNbr rNrb rNbd rNdb rNrd rNdr
  refine (contangolaw11_awake.calls true W11 rfl).mono ?_
  rintro e W12 ⟨rfl, hb⟩
  have HB : Aside0 (Below W11.heap.size W11 W12) := ⟨hb⟩
  replace HT := Aside0.mk (HT.out.trans (HB.out.mono HT.out.size))
  replace HTd := Aside0.mk (HTd.out.trans (HB.out.mono HTd.out.size))
  replace m1 := Aside0.mk (Kd.C_below m1.out HB.out)
  replace m2 := Aside0.mk (Kd.C_below m2.out HB.out)
  replace b := Aside0.mk (blk_below HB.out b.out)
  replace r := Aside0.mk (blk_below HB.out r.out)
  replace Mn := Aside0.mk (Kd.C_below Mn.out HB.out)
  replace d := Aside0.mk (blk_below HB.out d.out)
  clear HB
  clear hb
  have rb0 : W12.cell? ⟨w.heap.size, 0, none⟩ = some (.int .i64 ex) := (blk_cell b.out 0).trans rfl
  have fb0 := blk_frozen b.out 0
  have rb1 : W12.cell? ⟨w.heap.size, 1, none⟩ = some (.slice A1 hs.length c1) := (blk_cell b.out 1).trans rfl
  have fb1 := blk_frozen b.out 1
  have rb2 : W12.cell? ⟨w.heap.size, 2, none⟩ = some (.slice A2 cs.length c2) := (blk_cell b.out 2).trans rfl
  have fb2 := blk_frozen b.out 2
  have rr0 : W12.cell? ⟨W4.heap.size, 0, none⟩ = some (.int .i64 0) := (blk_cell r.out 0).trans rfl
  have fr0 := blk_frozen r.out 0
  have rr1 : W12.cell? ⟨W4.heap.size, 1, none⟩ = some (.int .i64 0) := (blk_cell r.out 1).trans rfl
  have fr1 := blk_frozen r.out 1
  have rd0 : W12.cell? ⟨W10.heap.size, 0, none⟩ = some (.int .i64 0) := (blk_cell d.out 0).trans rfl
  have fd0 := blk_frozen d.out 0
  have rd1 : W12.cell? ⟨W10.heap.size, 1, none⟩ = some (.int .i64 0) := (blk_cell d.out 1).trans rfl
  have fd1 := blk_frozen d.out 1
  have rNbr := Nbr.out
  have rNrb := Nrb.out
  have rNbd := Nbd.out
  have rNdb := Ndb.out
  have rNrd := Nrd.out
  have rNdr := Ndr.out
  go_wp2_with fail
  clear rb0 fb0 rb1 fb1 rb2 fb2 rr0 fr0 rr1 fr1 rd0 fd0 rd1 fd1 rNbr rNrb rNbd rNdb rNrd rNdr
  go_ret
  exact ⟨rfl, HT.out⟩
set_option maxHeartbeats 4000000 in
set_option maxRecDepth 100000 in
theorem law4_no (ex : Int) (A1 : Option Addr) (c1 : Nat) (hs : List S88) (A2 : Option Addr) (c2 : Nat) (cs : List S101) (H : List S73) (C : List S75) (up : Bool) (w : World) (m1 : Kd.C k88 w A1 hs.length hs) (h1 : hs.length ≤ c1) (m2 : Kd.C k101 w A2 cs.length cs) (h2 : cs.length ≤ c2) (efew : contangolaw11_few.f 3000 ex hs cs 3000 = some true) (em : contangolaw11_Market.f 3000 ex hs cs = some (ex, H, C)) (es : corner_Shortage.f ex H C = some (0, 0, 9)) (eh : corner_Show.f ex H C up = some ([], 9)) (ec : corner_Cornered.f ex H C = some (false, false, 9)) (ef : contangolaw11_fault.f 3000 ex hs cs = some 0) (eb : contangoref11_Bounds.f 1000000 ex hs cs = some (0, 0, false)) :
    Calls Try.prog 4 #[.agg #[.int .i64 ex, .slice A1 hs.length c1, .slice A2 cs.length c2], .bool up] w fun e w' => e = .returned (.bool true) ∧ Below w.heap.size w w' := by
  replace m1 := Aside0.mk m1
  replace h1 := Aside0.mk h1
  replace m2 := Aside0.mk m2
  replace h2 := Aside0.mk h2
  replace efew := Aside0.mk efew
  replace em := Aside0.mk em
  replace es := Aside0.mk es
  replace eh := Aside0.mk eh
  replace ec := Aside0.mk ec
  replace ef := Aside0.mk ef
  replace eb := Aside0.mk eb
  have HT : Aside0 (Below w.heap.size w w) := ⟨Below.refl _ _⟩
  go_enter Try.func4, Try.ntmps4
  go_wp2_with fail
  have heq := fun w => eqA46 9998 w 0 0 0 0
  obtain ⟨W1, HW⟩ : ∃ W, Aside0 (w.alloc (.cells #[.int .i64 ex, .slice A1 hs.length c1, .slice A2 cs.length c2] 25) = W) := ⟨_, ⟨rfl⟩⟩
  have b : Aside0 (W1.heap[w.heap.size]? = some (.cells #[.int .i64 ex, .slice A1 hs.length c1, .slice A2 cs.length c2] 25)) := ⟨by rw [← HW.out]; exact heap_alloc_new w _⟩
  have HB : Aside0 (Below w.heap.size w W1) := ⟨by rw [← HW.out]; exact (Below.refl _ _).alloc (Nat.le_refl _) _⟩
  replace HT := Aside0.mk (HT.out.trans (HB.out.mono HT.out.size))
  replace m1 := Aside0.mk (Kd.C_below m1.out HB.out)
  replace m2 := Aside0.mk (Kd.C_below m2.out HB.out)
  clear HB
  rw [HW.out]
  clear HW
  have rb0 : W1.cell? ⟨w.heap.size, 0, none⟩ = some (.int .i64 ex) := (blk_cell b.out 0).trans rfl
  have fb0 := blk_frozen b.out 0
  have rb1 : W1.cell? ⟨w.heap.size, 1, none⟩ = some (.slice A1 hs.length c1) := (blk_cell b.out 1).trans rfl
  have fb1 := blk_frozen b.out 1
  have rb2 : W1.cell? ⟨w.heap.size, 2, none⟩ = some (.slice A2 cs.length c2) := (blk_cell b.out 2).trans rfl
  have fb2 := blk_frozen b.out 2
  go_wp2_with fail
  clear rb0 fb0 rb1 fb1 rb2 fb2
  refine (contangolaw11_few.calls 3000 ex A1 c1 hs A2 c2 cs 3000 true W1 m1.out h1.out m2.out h2.out efew.out).mono ?_
  rintro e W2 ⟨rfl, hb⟩
  have HB : Aside0 (Below W1.heap.size W1 W2) := ⟨hb⟩
  replace HT := Aside0.mk (HT.out.trans (HB.out.mono HT.out.size))
  replace m1 := Aside0.mk (Kd.C_below m1.out HB.out)
  replace m2 := Aside0.mk (Kd.C_below m2.out HB.out)
  replace b := Aside0.mk (blk_below HB.out b.out)
  clear HB
  clear hb
  have rb0 : W2.cell? ⟨w.heap.size, 0, none⟩ = some (.int .i64 ex) := (blk_cell b.out 0).trans rfl
  have fb0 := blk_frozen b.out 0
  have rb1 : W2.cell? ⟨w.heap.size, 1, none⟩ = some (.slice A1 hs.length c1) := (blk_cell b.out 1).trans rfl
  have fb1 := blk_frozen b.out 1
  have rb2 : W2.cell? ⟨w.heap.size, 2, none⟩ = some (.slice A2 cs.length c2) := (blk_cell b.out 2).trans rfl
  have fb2 := blk_frozen b.out 2
  go_wp2_with fail
  clear rb0 fb0 rb1 fb1 rb2 fb2
  refine (contangolaw11_Market.calls 3000 ex A1 c1 hs A2 c2 cs ex H C W2 m1.out h1.out m2.out h2.out em.out).mono ?_
  rintro e W3 ⟨vh, vc, rfl, hrh, hrc, hb⟩
  have HB : Aside0 (Below W2.heap.size W2 W3) := ⟨hb⟩
  replace HT := Aside0.mk (HT.out.trans (HB.out.mono HT.out.size))
  replace m1 := Aside0.mk (Kd.C_below m1.out HB.out)
  replace m2 := Aside0.mk (Kd.C_below m2.out HB.out)
  replace b := Aside0.mk (blk_below HB.out b.out)
  clear HB
  obtain ⟨Ah, ch, rfl, hc, hC⟩ := Kd.R_reads hrh
  have Mh := Aside0.mk hC
  have Lh := Aside0.mk hc
  clear hc hC hrh
  obtain ⟨Ac, cc, rfl, hc, hC⟩ := Kd.R_reads hrc
  have Mc := Aside0.mk hC
  have Lc := Aside0.mk hc
  clear hc hC hrc
  clear hb
  have rb0 : W3.cell? ⟨w.heap.size, 0, none⟩ = some (.int .i64 ex) := (blk_cell b.out 0).trans rfl
  have fb0 := blk_frozen b.out 0
  have rb1 : W3.cell? ⟨w.heap.size, 1, none⟩ = some (.slice A1 hs.length c1) := (blk_cell b.out 1).trans rfl
  have fb1 := blk_frozen b.out 1
  have rb2 : W3.cell? ⟨w.heap.size, 2, none⟩ = some (.slice A2 cs.length c2) := (blk_cell b.out 2).trans rfl
  have fb2 := blk_frozen b.out 2
  go_wp2_with fail
  clear rb0 fb0 rb1 fb1 rb2 fb2
  refine (corner_Shortage.calls ex Ah ch H Ac cc C 0 0 9 W3 Mh.out Lh.out Mc.out Lc.out es.out).mono ?_
  rintro e W4 ⟨rfl, hb⟩
  have HB : Aside0 (Below W3.heap.size W3 W4) := ⟨hb⟩
  replace HT := Aside0.mk (HT.out.trans (HB.out.mono HT.out.size))
  replace m1 := Aside0.mk (Kd.C_below m1.out HB.out)
  replace m2 := Aside0.mk (Kd.C_below m2.out HB.out)
  replace b := Aside0.mk (blk_below HB.out b.out)
  replace Mh := Aside0.mk (Kd.C_below Mh.out HB.out)
  replace Mc := Aside0.mk (Kd.C_below Mc.out HB.out)
  clear HB
  clear hb
  have rb0 : W4.cell? ⟨w.heap.size, 0, none⟩ = some (.int .i64 ex) := (blk_cell b.out 0).trans rfl
  have fb0 := blk_frozen b.out 0
  have rb1 : W4.cell? ⟨w.heap.size, 1, none⟩ = some (.slice A1 hs.length c1) := (blk_cell b.out 1).trans rfl
  have fb1 := blk_frozen b.out 1
  have rb2 : W4.cell? ⟨w.heap.size, 2, none⟩ = some (.slice A2 cs.length c2) := (blk_cell b.out 2).trans rfl
  have fb2 := blk_frozen b.out 2
  have ab0 : ∀ o, (W4.alloc o).cell? ⟨w.heap.size, 0, none⟩ = some (.int .i64 ex) := fun o => (blk_cell (blk_old b.out o) 0).trans rfl
  have ab1 : ∀ o, (W4.alloc o).cell? ⟨w.heap.size, 1, none⟩ = some (.slice A1 hs.length c1) := fun o => (blk_cell (blk_old b.out o) 1).trans rfl
  have ab2 : ∀ o, (W4.alloc o).cell? ⟨w.heap.size, 2, none⟩ = some (.slice A2 cs.length c2) := fun o => (blk_cell (blk_old b.out o) 2).trans rfl
  go_wp2_with fail
  clear rb0 fb0 rb1 fb1 rb2 fb2 ab0 ab1 ab2
  obtain ⟨W5, HW⟩ : ∃ W, Aside0 (W4.alloc (.cells #[.int .i64 0, .int .i64 0] 46) = W) := ⟨_, ⟨rfl⟩⟩
  have Nbr : Aside0 (w.heap.size ≠ W4.heap.size) := ⟨Nat.ne_of_lt (blk_lt b.out)⟩
  have Nrb : Aside0 (W4.heap.size ≠ w.heap.size) := ⟨Nat.ne_of_gt (blk_lt b.out)⟩
  have r : Aside0 (W5.heap[W4.heap.size]? = some (.cells #[.int .i64 0, .int .i64 0] 46)) := ⟨by rw [← HW.out]; exact heap_alloc_new W4 _⟩
  have HB : Aside0 (Below W4.heap.size W4 W5) := ⟨by rw [← HW.out]; exact (Below.refl _ _).alloc (Nat.le_refl _) _⟩
  replace HT := Aside0.mk (HT.out.trans (HB.out.mono HT.out.size))
  replace m1 := Aside0.mk (Kd.C_below m1.out HB.out)
  replace m2 := Aside0.mk (Kd.C_below m2.out HB.out)
  replace b := Aside0.mk (blk_below HB.out b.out)
  replace Mh := Aside0.mk (Kd.C_below Mh.out HB.out)
  replace Mc := Aside0.mk (Kd.C_below Mc.out HB.out)
  clear HB
  rw [HW.out]
  clear HW
  clear Mh Mc
  have rb0 : W5.cell? ⟨w.heap.size, 0, none⟩ = some (.int .i64 ex) := (blk_cell b.out 0).trans rfl
  have fb0 := blk_frozen b.out 0
  have rb1 : W5.cell? ⟨w.heap.size, 1, none⟩ = some (.slice A1 hs.length c1) := (blk_cell b.out 1).trans rfl
  have fb1 := blk_frozen b.out 1
  have rb2 : W5.cell? ⟨w.heap.size, 2, none⟩ = some (.slice A2 cs.length c2) := (blk_cell b.out 2).trans rfl
  have fb2 := blk_frozen b.out 2
  have rr0 : W5.cell? ⟨W4.heap.size, 0, none⟩ = some (.int .i64 0) := (blk_cell r.out 0).trans rfl
  have fr0 := blk_frozen r.out 0
  have rr1 : W5.cell? ⟨W4.heap.size, 1, none⟩ = some (.int .i64 0) := (blk_cell r.out 1).trans rfl
  have fr1 := blk_frozen r.out 1
  have rNbr := Nbr.out
  have rNrb := Nrb.out
  go_wp2_with fail
  clear rb0 fb0 rb1 fb1 rb2 fb2 rr0 fr0 rr1 fr1 rNbr rNrb
  refine (contangolaw11_Market.calls 3000 ex A1 c1 hs A2 c2 cs ex H C W5 m1.out h1.out m2.out h2.out em.out).mono ?_
  rintro e W6 ⟨vh, vc, rfl, hrh, hrc, hb⟩
  have HB : Aside0 (Below W5.heap.size W5 W6) := ⟨hb⟩
  replace HT := Aside0.mk (HT.out.trans (HB.out.mono HT.out.size))
  replace m1 := Aside0.mk (Kd.C_below m1.out HB.out)
  replace m2 := Aside0.mk (Kd.C_below m2.out HB.out)
  replace b := Aside0.mk (blk_below HB.out b.out)
  replace r := Aside0.mk (blk_below HB.out r.out)
  clear HB
  obtain ⟨Ah, ch, rfl, hc, hC⟩ := Kd.R_reads hrh
  have Mh := Aside0.mk hC
  have Lh := Aside0.mk hc
  clear hc hC hrh
  obtain ⟨Ac, cc, rfl, hc, hC⟩ := Kd.R_reads hrc
  have Mc := Aside0.mk hC
  have Lc := Aside0.mk hc
  clear hc hC hrc
  clear hb
  have rb0 : W6.cell? ⟨w.heap.size, 0, none⟩ = some (.int .i64 ex) := (blk_cell b.out 0).trans rfl
  have fb0 := blk_frozen b.out 0
  have rb1 : W6.cell? ⟨w.heap.size, 1, none⟩ = some (.slice A1 hs.length c1) := (blk_cell b.out 1).trans rfl
  have fb1 := blk_frozen b.out 1
  have rb2 : W6.cell? ⟨w.heap.size, 2, none⟩ = some (.slice A2 cs.length c2) := (blk_cell b.out 2).trans rfl
  have fb2 := blk_frozen b.out 2
  have rr0 : W6.cell? ⟨W4.heap.size, 0, none⟩ = some (.int .i64 0) := (blk_cell r.out 0).trans rfl
  have fr0 := blk_frozen r.out 0
  have rr1 : W6.cell? ⟨W4.heap.size, 1, none⟩ = some (.int .i64 0) := (blk_cell r.out 1).trans rfl
  have fr1 := blk_frozen r.out 1
  have rNbr := Nbr.out
  have rNrb := Nrb.out
  go_wp2_with fail
  clear rb0 fb0 rb1 fb1 rb2 fb2 rr0 fr0 rr1 fr1 rNbr rNrb
  refine (corner_Show.calls ex Ah ch H Ac cc C up [] 9 W6 Mh.out Lh.out Mc.out Lc.out eh.out).mono ?_
  rintro e W7 ⟨vn, rfl, hrn, hb⟩
  have HB : Aside0 (Below W6.heap.size W6 W7) := ⟨hb⟩
  replace HT := Aside0.mk (HT.out.trans (HB.out.mono HT.out.size))
  replace m1 := Aside0.mk (Kd.C_below m1.out HB.out)
  replace m2 := Aside0.mk (Kd.C_below m2.out HB.out)
  replace b := Aside0.mk (blk_below HB.out b.out)
  replace r := Aside0.mk (blk_below HB.out r.out)
  replace Mh := Aside0.mk (Kd.C_below Mh.out HB.out)
  replace Mc := Aside0.mk (Kd.C_below Mc.out HB.out)
  clear HB
  obtain ⟨An, cn, rfl, hc, hC⟩ := Kd.R_reads hrn
  have Mn := Aside0.mk hC
  have Ln := Aside0.mk hc
  clear hc hC hrn
  clear hb
  have rb0 : W7.cell? ⟨w.heap.size, 0, none⟩ = some (.int .i64 ex) := (blk_cell b.out 0).trans rfl
  have fb0 := blk_frozen b.out 0
  have rb1 : W7.cell? ⟨w.heap.size, 1, none⟩ = some (.slice A1 hs.length c1) := (blk_cell b.out 1).trans rfl
  have fb1 := blk_frozen b.out 1
  have rb2 : W7.cell? ⟨w.heap.size, 2, none⟩ = some (.slice A2 cs.length c2) := (blk_cell b.out 2).trans rfl
  have fb2 := blk_frozen b.out 2
  have rr0 : W7.cell? ⟨W4.heap.size, 0, none⟩ = some (.int .i64 0) := (blk_cell r.out 0).trans rfl
  have fr0 := blk_frozen r.out 0
  have rr1 : W7.cell? ⟨W4.heap.size, 1, none⟩ = some (.int .i64 0) := (blk_cell r.out 1).trans rfl
  have fr1 := blk_frozen r.out 1
  have rNbr := Nbr.out
  have rNrb := Nrb.out
  go_wp2_with fail
  clear rb0 fb0 rb1 fb1 rb2 fb2 rr0 fr0 rr1 fr1 rNbr rNrb
  clear Mh Mc
  refine (contangolaw11_Market.calls 3000 ex A1 c1 hs A2 c2 cs ex H C W7 m1.out h1.out m2.out h2.out em.out).mono ?_
  rintro e W8 ⟨vh, vc, rfl, hrh, hrc, hb⟩
  have HB : Aside0 (Below W7.heap.size W7 W8) := ⟨hb⟩
  replace HT := Aside0.mk (HT.out.trans (HB.out.mono HT.out.size))
  replace m1 := Aside0.mk (Kd.C_below m1.out HB.out)
  replace m2 := Aside0.mk (Kd.C_below m2.out HB.out)
  replace b := Aside0.mk (blk_below HB.out b.out)
  replace r := Aside0.mk (blk_below HB.out r.out)
  replace Mn := Aside0.mk (Kd.C_below Mn.out HB.out)
  clear HB
  obtain ⟨Ah, ch, rfl, hc, hC⟩ := Kd.R_reads hrh
  have Mh := Aside0.mk hC
  have Lh := Aside0.mk hc
  clear hc hC hrh
  obtain ⟨Ac, cc, rfl, hc, hC⟩ := Kd.R_reads hrc
  have Mc := Aside0.mk hC
  have Lc := Aside0.mk hc
  clear hc hC hrc
  clear hb
  have rb0 : W8.cell? ⟨w.heap.size, 0, none⟩ = some (.int .i64 ex) := (blk_cell b.out 0).trans rfl
  have fb0 := blk_frozen b.out 0
  have rb1 : W8.cell? ⟨w.heap.size, 1, none⟩ = some (.slice A1 hs.length c1) := (blk_cell b.out 1).trans rfl
  have fb1 := blk_frozen b.out 1
  have rb2 : W8.cell? ⟨w.heap.size, 2, none⟩ = some (.slice A2 cs.length c2) := (blk_cell b.out 2).trans rfl
  have fb2 := blk_frozen b.out 2
  have rr0 : W8.cell? ⟨W4.heap.size, 0, none⟩ = some (.int .i64 0) := (blk_cell r.out 0).trans rfl
  have fr0 := blk_frozen r.out 0
  have rr1 : W8.cell? ⟨W4.heap.size, 1, none⟩ = some (.int .i64 0) := (blk_cell r.out 1).trans rfl
  have fr1 := blk_frozen r.out 1
  have rNbr := Nbr.out
  have rNrb := Nrb.out
  go_wp2_with fail
  clear rb0 fb0 rb1 fb1 rb2 fb2 rr0 fr0 rr1 fr1 rNbr rNrb
  refine (corner_Cornered.calls ex Ah ch H Ac cc C false false 9 W8 Mh.out Lh.out Mc.out Lc.out ec.out).mono ?_
  rintro e W9 ⟨rfl, hb⟩
  have HB : Aside0 (Below W8.heap.size W8 W9) := ⟨hb⟩
  replace HT := Aside0.mk (HT.out.trans (HB.out.mono HT.out.size))
  replace m1 := Aside0.mk (Kd.C_below m1.out HB.out)
  replace m2 := Aside0.mk (Kd.C_below m2.out HB.out)
  replace b := Aside0.mk (blk_below HB.out b.out)
  replace r := Aside0.mk (blk_below HB.out r.out)
  replace Mn := Aside0.mk (Kd.C_below Mn.out HB.out)
  replace Mh := Aside0.mk (Kd.C_below Mh.out HB.out)
  replace Mc := Aside0.mk (Kd.C_below Mc.out HB.out)
  clear HB
  clear hb
  have rb0 : W9.cell? ⟨w.heap.size, 0, none⟩ = some (.int .i64 ex) := (blk_cell b.out 0).trans rfl
  have fb0 := blk_frozen b.out 0
  have rb1 : W9.cell? ⟨w.heap.size, 1, none⟩ = some (.slice A1 hs.length c1) := (blk_cell b.out 1).trans rfl
  have fb1 := blk_frozen b.out 1
  have rb2 : W9.cell? ⟨w.heap.size, 2, none⟩ = some (.slice A2 cs.length c2) := (blk_cell b.out 2).trans rfl
  have fb2 := blk_frozen b.out 2
  have rr0 : W9.cell? ⟨W4.heap.size, 0, none⟩ = some (.int .i64 0) := (blk_cell r.out 0).trans rfl
  have fr0 := blk_frozen r.out 0
  have rr1 : W9.cell? ⟨W4.heap.size, 1, none⟩ = some (.int .i64 0) := (blk_cell r.out 1).trans rfl
  have fr1 := blk_frozen r.out 1
  have rNbr := Nbr.out
  have rNrb := Nrb.out
  go_wp2_with fail
  clear rb0 fb0 rb1 fb1 rb2 fb2 rr0 fr0 rr1 fr1 rNbr rNrb
  clear Mh Mc
  refine (contangolaw11_fault.calls 3000 ex A1 c1 hs A2 c2 cs 0 W9 m1.out h1.out m2.out h2.out ef.out).mono ?_
  rintro e W10 ⟨rfl, hb⟩
  have HB : Aside0 (Below W9.heap.size W9 W10) := ⟨hb⟩
  replace HT := Aside0.mk (HT.out.trans (HB.out.mono HT.out.size))
  replace m1 := Aside0.mk (Kd.C_below m1.out HB.out)
  replace m2 := Aside0.mk (Kd.C_below m2.out HB.out)
  replace b := Aside0.mk (blk_below HB.out b.out)
  replace r := Aside0.mk (blk_below HB.out r.out)
  replace Mn := Aside0.mk (Kd.C_below Mn.out HB.out)
  clear HB
  clear hb
  have rb0 : W10.cell? ⟨w.heap.size, 0, none⟩ = some (.int .i64 ex) := (blk_cell b.out 0).trans rfl
  have fb0 := blk_frozen b.out 0
  have rb1 : W10.cell? ⟨w.heap.size, 1, none⟩ = some (.slice A1 hs.length c1) := (blk_cell b.out 1).trans rfl
  have fb1 := blk_frozen b.out 1
  have rb2 : W10.cell? ⟨w.heap.size, 2, none⟩ = some (.slice A2 cs.length c2) := (blk_cell b.out 2).trans rfl
  have fb2 := blk_frozen b.out 2
  have rr0 : W10.cell? ⟨W4.heap.size, 0, none⟩ = some (.int .i64 0) := (blk_cell r.out 0).trans rfl
  have fr0 := blk_frozen r.out 0
  have rr1 : W10.cell? ⟨W4.heap.size, 1, none⟩ = some (.int .i64 0) := (blk_cell r.out 1).trans rfl
  have fr1 := blk_frozen r.out 1
  have rNbr := Nbr.out
  have rNrb := Nrb.out
  have ab0 : ∀ o, (W10.alloc o).cell? ⟨w.heap.size, 0, none⟩ = some (.int .i64 ex) := fun o => (blk_cell (blk_old b.out o) 0).trans rfl
  have ab1 : ∀ o, (W10.alloc o).cell? ⟨w.heap.size, 1, none⟩ = some (.slice A1 hs.length c1) := fun o => (blk_cell (blk_old b.out o) 1).trans rfl
  have ab2 : ∀ o, (W10.alloc o).cell? ⟨w.heap.size, 2, none⟩ = some (.slice A2 cs.length c2) := fun o => (blk_cell (blk_old b.out o) 2).trans rfl
  have ar0 : ∀ o, (W10.alloc o).cell? ⟨W4.heap.size, 0, none⟩ = some (.int .i64 0) := fun o => (blk_cell (blk_old r.out o) 0).trans rfl
  have ar1 : ∀ o, (W10.alloc o).cell? ⟨W4.heap.size, 1, none⟩ = some (.int .i64 0) := fun o => (blk_cell (blk_old r.out o) 1).trans rfl
  go_wp2_with fail
  clear rb0 fb0 rb1 fb1 rb2 fb2 rr0 fr0 rr1 fr1 rNbr rNrb ab0 ab1 ab2 ar0 ar1
  obtain ⟨W11, HW⟩ : ∃ W, Aside0 (W10.alloc (.cells #[.int .i64 0, .int .i64 0] 53) = W) := ⟨_, ⟨rfl⟩⟩
  have Nbd : Aside0 (w.heap.size ≠ W10.heap.size) := ⟨Nat.ne_of_lt (blk_lt b.out)⟩
  have Ndb : Aside0 (W10.heap.size ≠ w.heap.size) := ⟨Nat.ne_of_gt (blk_lt b.out)⟩
  have Nrd : Aside0 (W4.heap.size ≠ W10.heap.size) := ⟨Nat.ne_of_lt (blk_lt r.out)⟩
  have Ndr : Aside0 (W10.heap.size ≠ W4.heap.size) := ⟨Nat.ne_of_gt (blk_lt r.out)⟩
  have HTd : Aside0 (Below W10.heap.size W10 W10) := ⟨Below.refl _ _⟩
  have m1_d := m1
  have m2_d := m2
  have b_d := b
  have r_d := r
  have Mn_d := Mn
  have HLd : Aside0 (Below w.heap.size w W10) := HT
  have d : Aside0 (W11.heap[W10.heap.size]? = some (.cells #[.int .i64 0, .int .i64 0] 53)) := ⟨by rw [← HW.out]; exact heap_alloc_new W10 _⟩
  have HB : Aside0 (Below W10.heap.size W10 W11) := ⟨by rw [← HW.out]; exact (Below.refl _ _).alloc (Nat.le_refl _) _⟩
  replace HT := Aside0.mk (HT.out.trans (HB.out.mono HT.out.size))
  replace HTd := Aside0.mk (HTd.out.trans (HB.out.mono HTd.out.size))
  replace m1 := Aside0.mk (Kd.C_below m1.out HB.out)
  replace m2 := Aside0.mk (Kd.C_below m2.out HB.out)
  replace b := Aside0.mk (blk_below HB.out b.out)
  replace r := Aside0.mk (blk_below HB.out r.out)
  replace Mn := Aside0.mk (Kd.C_below Mn.out HB.out)
  clear HB
  rw [HW.out]
  clear HW
  have rb0 : W11.cell? ⟨w.heap.size, 0, none⟩ = some (.int .i64 ex) := (blk_cell b.out 0).trans rfl
  have fb0 := blk_frozen b.out 0
  have rb1 : W11.cell? ⟨w.heap.size, 1, none⟩ = some (.slice A1 hs.length c1) := (blk_cell b.out 1).trans rfl
  have fb1 := blk_frozen b.out 1
  have rb2 : W11.cell? ⟨w.heap.size, 2, none⟩ = some (.slice A2 cs.length c2) := (blk_cell b.out 2).trans rfl
  have fb2 := blk_frozen b.out 2
  have rr0 : W11.cell? ⟨W4.heap.size, 0, none⟩ = some (.int .i64 0) := (blk_cell r.out 0).trans rfl
  have fr0 := blk_frozen r.out 0
  have rr1 : W11.cell? ⟨W4.heap.size, 1, none⟩ = some (.int .i64 0) := (blk_cell r.out 1).trans rfl
  have fr1 := blk_frozen r.out 1
  have rd0 : W11.cell? ⟨W10.heap.size, 0, none⟩ = some (.int .i64 0) := (blk_cell d.out 0).trans rfl
  have fd0 := blk_frozen d.out 0
  have rd1 : W11.cell? ⟨W10.heap.size, 1, none⟩ = some (.int .i64 0) := (blk_cell d.out 1).trans rfl
  have fd1 := blk_frozen d.out 1
  have rNbr := Nbr.out
  have rNrb := Nrb.out
  have rNbd := Nbd.out
  have rNdb := Ndb.out
  have rNrd := Nrd.out
  have rNdr := Ndr.out
  go_wp2_with fail
  clear rb0 fb0 rb1 fb1 rb2 fb2 rr0 fr0 rr1 fr1 rd0 fd0 rd1 fd1 rNbr rNrb rNbd rNdb rNrd rNdr
  refine (contangoref11_Bounds.calls 1000000 ex A1 c1 hs A2 c2 cs 0 0 false W11 m1.out h1.out m2.out h2.out eb.out).mono ?_
  rintro e W12 ⟨rfl, hb⟩
  have HB : Aside0 (Below W11.heap.size W11 W12) := ⟨hb⟩
  replace HT := Aside0.mk (HT.out.trans (HB.out.mono HT.out.size))
  replace HTd := Aside0.mk (HTd.out.trans (HB.out.mono HTd.out.size))
  replace m1 := Aside0.mk (Kd.C_below m1.out HB.out)
  replace m2 := Aside0.mk (Kd.C_below m2.out HB.out)
  replace b := Aside0.mk (blk_below HB.out b.out)
  replace r := Aside0.mk (blk_below HB.out r.out)
  replace Mn := Aside0.mk (Kd.C_below Mn.out HB.out)
  replace d := Aside0.mk (blk_below HB.out d.out)
  clear HB
  clear hb
  have rb0 : W12.cell? ⟨w.heap.size, 0, none⟩ = some (.int .i64 ex) := (blk_cell b.out 0).trans rfl
  have fb0 := blk_frozen b.out 0
  have rb1 : W12.cell? ⟨w.heap.size, 1, none⟩ = some (.slice A1 hs.length c1) := (blk_cell b.out 1).trans rfl
  have fb1 := blk_frozen b.out 1
  have rb2 : W12.cell? ⟨w.heap.size, 2, none⟩ = some (.slice A2 cs.length c2) := (blk_cell b.out 2).trans rfl
  have fb2 := blk_frozen b.out 2
  have rr0 : W12.cell? ⟨W4.heap.size, 0, none⟩ = some (.int .i64 0) := (blk_cell r.out 0).trans rfl
  have fr0 := blk_frozen r.out 0
  have rr1 : W12.cell? ⟨W4.heap.size, 1, none⟩ = some (.int .i64 0) := (blk_cell r.out 1).trans rfl
  have fr1 := blk_frozen r.out 1
  have rd0 : W12.cell? ⟨W10.heap.size, 0, none⟩ = some (.int .i64 0) := (blk_cell d.out 0).trans rfl
  have fd0 := blk_frozen d.out 0
  have rd1 : W12.cell? ⟨W10.heap.size, 1, none⟩ = some (.int .i64 0) := (blk_cell d.out 1).trans rfl
  have fd1 := blk_frozen d.out 1
  have rNbr := Nbr.out
  have rNrb := Nrb.out
  have rNbd := Nbd.out
  have rNdb := Ndb.out
  have rNrd := Nrd.out
  have rNdr := Ndr.out
  go_wp2_with fail
  clear rb0 fb0 rb1 fb1 rb2 fb2 rr0 fr0 rr1 fr1 rd0 fd0 rd1 fd1 rNbr rNrb rNbd rNdb rNrd rNdr
  obtain ⟨W13, HW⟩ : ∃ W, Aside0 (((W12.setCell ⟨W10.heap.size, 0, none⟩ (.int .i64 0)).setCell ⟨W10.heap.size, 1, none⟩ (.int .i64 0)) = W) := ⟨_, ⟨rfl⟩⟩
  replace HT : Aside0 (Below w.heap.size w W13) := ⟨by rw [← HW.out]; exact (below_set (below_set HT.out HLd.out.size) HLd.out.size)⟩
  replace HTd : Aside0 (Below W10.heap.size W10 W13) := ⟨by rw [← HW.out]; exact (below_set (below_set HTd.out (Nat.le_refl _)) (Nat.le_refl _))⟩
  replace d : Aside0 (W13.heap[W10.heap.size]? = some (.cells #[.int .i64 0, .int .i64 0] 53)) := ⟨by rw [← HW.out]; exact (blk_put (blk_put d.out 0 _ rfl) 1 _ rfl)⟩
  replace m1 := Aside0.mk (Kd.C_below m1_d.out HTd.out)
  replace m2 := Aside0.mk (Kd.C_below m2_d.out HTd.out)
  replace b := Aside0.mk (blk_below HTd.out b_d.out)
  replace r := Aside0.mk (blk_below HTd.out r_d.out)
  replace Mn := Aside0.mk (Kd.C_below Mn_d.out HTd.out)
  rw [HW.out]
  clear HW
  have rb0 : W13.cell? ⟨w.heap.size, 0, none⟩ = some (.int .i64 ex) := (blk_cell b.out 0).trans rfl
  have fb0 := blk_frozen b.out 0
  have rb1 : W13.cell? ⟨w.heap.size, 1, none⟩ = some (.slice A1 hs.length c1) := (blk_cell b.out 1).trans rfl
  have fb1 := blk_frozen b.out 1
  have rb2 : W13.cell? ⟨w.heap.size, 2, none⟩ = some (.slice A2 cs.length c2) := (blk_cell b.out 2).trans rfl
  have fb2 := blk_frozen b.out 2
  have rr0 : W13.cell? ⟨W4.heap.size, 0, none⟩ = some (.int .i64 0) := (blk_cell r.out 0).trans rfl
  have fr0 := blk_frozen r.out 0
  have rr1 : W13.cell? ⟨W4.heap.size, 1, none⟩ = some (.int .i64 0) := (blk_cell r.out 1).trans rfl
  have fr1 := blk_frozen r.out 1
  have rd0 : W13.cell? ⟨W10.heap.size, 0, none⟩ = some (.int .i64 0) := (blk_cell d.out 0).trans rfl
  have fd0 := blk_frozen d.out 0
  have rd1 : W13.cell? ⟨W10.heap.size, 1, none⟩ = some (.int .i64 0) := (blk_cell d.out 1).trans rfl
  have fd1 := blk_frozen d.out 1
  have rNbr := Nbr.out
  have rNrb := Nrb.out
  have rNbd := Nbd.out
  have rNdb := Ndb.out
  have rNrd := Nrd.out
  have rNdr := Ndr.out
  go_wp2_with fail
  clear rb0 fb0 rb1 fb1 rb2 fb2 rr0 fr0 rr1 fr1 rd0 fd0 rd1 fd1 rNbr rNrb rNbd rNdb rNrd rNdr
  refine (contangolaw11_awake.calls true W13 rfl).mono ?_
  rintro e W14 ⟨rfl, hb⟩
  have HB : Aside0 (Below W13.heap.size W13 W14) := ⟨hb⟩
  replace HT := Aside0.mk (HT.out.trans (HB.out.mono HT.out.size))
  replace HTd := Aside0.mk (HTd.out.trans (HB.out.mono HTd.out.size))
  replace m1 := Aside0.mk (Kd.C_below m1.out HB.out)
  replace m2 := Aside0.mk (Kd.C_below m2.out HB.out)
  replace b := Aside0.mk (blk_below HB.out b.out)
  replace r := Aside0.mk (blk_below HB.out r.out)
  replace Mn := Aside0.mk (Kd.C_below Mn.out HB.out)
  replace d := Aside0.mk (blk_below HB.out d.out)
  clear HB
  clear hb
  have rb0 : W14.cell? ⟨w.heap.size, 0, none⟩ = some (.int .i64 ex) := (blk_cell b.out 0).trans rfl
  have fb0 := blk_frozen b.out 0
  have rb1 : W14.cell? ⟨w.heap.size, 1, none⟩ = some (.slice A1 hs.length c1) := (blk_cell b.out 1).trans rfl
  have fb1 := blk_frozen b.out 1
  have rb2 : W14.cell? ⟨w.heap.size, 2, none⟩ = some (.slice A2 cs.length c2) := (blk_cell b.out 2).trans rfl
  have fb2 := blk_frozen b.out 2
  have rr0 : W14.cell? ⟨W4.heap.size, 0, none⟩ = some (.int .i64 0) := (blk_cell r.out 0).trans rfl
  have fr0 := blk_frozen r.out 0
  have rr1 : W14.cell? ⟨W4.heap.size, 1, none⟩ = some (.int .i64 0) := (blk_cell r.out 1).trans rfl
  have fr1 := blk_frozen r.out 1
  have rd0 : W14.cell? ⟨W10.heap.size, 0, none⟩ = some (.int .i64 0) := (blk_cell d.out 0).trans rfl
  have fd0 := blk_frozen d.out 0
  have rd1 : W14.cell? ⟨W10.heap.size, 1, none⟩ = some (.int .i64 0) := (blk_cell d.out 1).trans rfl
  have fd1 := blk_frozen d.out 1
  have rNbr := Nbr.out
  have rNrb := Nrb.out
  have rNbd := Nbd.out
  have rNdb := Ndb.out
  have rNrd := Nrd.out
  have rNdr := Ndr.out
  go_wp2_with fail
  clear rb0 fb0 rb1 fb1 rb2 fb2 rr0 fr0 rr1 fr1 rd0 fd0 rd1 fd1 rNbr rNrb rNbd rNdb rNrd rNdr
  go_ret
  exact ⟨rfl, HT.out⟩
set_option maxHeartbeats 4000000 in
set_option maxRecDepth 100000 in
theorem law4_yes_lo (ex : Int) (A1 : Option Addr) (c1 : Nat) (hs : List S88) (A2 : Option Addr) (c2 : Nat) (cs : List S101) (H : List S73) (C : List S75) (lo hi : Int) (t : List Int) (w : World) (m1 : Kd.C k88 w A1 hs.length hs) (h1 : hs.length ≤ c1) (m2 : Kd.C k101 w A2 cs.length cs) (h2 : cs.length ≤ c2) (efew : contangolaw11_few.f 3000 ex hs cs 3000 = some true) (em : contangolaw11_Market.f 3000 ex hs cs = some (ex, H, C)) (es : corner_Shortage.f ex H C = some (lo, hi, 0)) (eh : corner_Show.f ex H C false = some (t, 0)) (ec : corner_Cornered.f ex H C = some (decide (lo > 0), decide (hi > 0), 0)) (ef : contangolaw11_fault.f 3000 ex hs cs = some 0) (eb : contangoref11_Bounds.f 1000000 ex hs cs = some (lo, hi, true)) (ei : contangoref11_IsTruth.f 3000 ex hs cs t = some true) (eo : contangoref11_Short.f 3000 ex hs cs t = some lo) :
    Calls Try.prog 4 #[.agg #[.int .i64 ex, .slice A1 hs.length c1, .slice A2 cs.length c2], .bool false] w fun e w' => e = .returned (.bool true) ∧ Below w.heap.size w w' := by
  replace m1 := Aside0.mk m1
  replace h1 := Aside0.mk h1
  replace m2 := Aside0.mk m2
  replace h2 := Aside0.mk h2
  replace efew := Aside0.mk efew
  replace em := Aside0.mk em
  replace es := Aside0.mk es
  replace eh := Aside0.mk eh
  replace ec := Aside0.mk ec
  replace ef := Aside0.mk ef
  replace eb := Aside0.mk eb
  replace ei := Aside0.mk ei
  replace eo := Aside0.mk eo
  have HT : Aside0 (Below w.heap.size w w) := ⟨Below.refl _ _⟩
  go_enter Try.func4, Try.ntmps4
  go_wp2_with fail
  have heq := fun w => eqA46 9998 w lo lo hi hi
  obtain ⟨W1, HW⟩ : ∃ W, Aside0 (w.alloc (.cells #[.int .i64 ex, .slice A1 hs.length c1, .slice A2 cs.length c2] 25) = W) := ⟨_, ⟨rfl⟩⟩
  have b : Aside0 (W1.heap[w.heap.size]? = some (.cells #[.int .i64 ex, .slice A1 hs.length c1, .slice A2 cs.length c2] 25)) := ⟨by rw [← HW.out]; exact heap_alloc_new w _⟩
  have HB : Aside0 (Below w.heap.size w W1) := ⟨by rw [← HW.out]; exact (Below.refl _ _).alloc (Nat.le_refl _) _⟩
  replace HT := Aside0.mk (HT.out.trans (HB.out.mono HT.out.size))
  replace m1 := Aside0.mk (Kd.C_below m1.out HB.out)
  replace m2 := Aside0.mk (Kd.C_below m2.out HB.out)
  clear HB
  rw [HW.out]
  clear HW
  have rb0 : W1.cell? ⟨w.heap.size, 0, none⟩ = some (.int .i64 ex) := (blk_cell b.out 0).trans rfl
  have fb0 := blk_frozen b.out 0
  have rb1 : W1.cell? ⟨w.heap.size, 1, none⟩ = some (.slice A1 hs.length c1) := (blk_cell b.out 1).trans rfl
  have fb1 := blk_frozen b.out 1
  have rb2 : W1.cell? ⟨w.heap.size, 2, none⟩ = some (.slice A2 cs.length c2) := (blk_cell b.out 2).trans rfl
  have fb2 := blk_frozen b.out 2
  go_wp2_with fail
  clear rb0 fb0 rb1 fb1 rb2 fb2
  refine (contangolaw11_few.calls 3000 ex A1 c1 hs A2 c2 cs 3000 true W1 m1.out h1.out m2.out h2.out efew.out).mono ?_
  rintro e W2 ⟨rfl, hb⟩
  have HB : Aside0 (Below W1.heap.size W1 W2) := ⟨hb⟩
  replace HT := Aside0.mk (HT.out.trans (HB.out.mono HT.out.size))
  replace m1 := Aside0.mk (Kd.C_below m1.out HB.out)
  replace m2 := Aside0.mk (Kd.C_below m2.out HB.out)
  replace b := Aside0.mk (blk_below HB.out b.out)
  clear HB
  clear hb
  have rb0 : W2.cell? ⟨w.heap.size, 0, none⟩ = some (.int .i64 ex) := (blk_cell b.out 0).trans rfl
  have fb0 := blk_frozen b.out 0
  have rb1 : W2.cell? ⟨w.heap.size, 1, none⟩ = some (.slice A1 hs.length c1) := (blk_cell b.out 1).trans rfl
  have fb1 := blk_frozen b.out 1
  have rb2 : W2.cell? ⟨w.heap.size, 2, none⟩ = some (.slice A2 cs.length c2) := (blk_cell b.out 2).trans rfl
  have fb2 := blk_frozen b.out 2
  go_wp2_with fail
  clear rb0 fb0 rb1 fb1 rb2 fb2
  refine (contangolaw11_Market.calls 3000 ex A1 c1 hs A2 c2 cs ex H C W2 m1.out h1.out m2.out h2.out em.out).mono ?_
  rintro e W3 ⟨vh, vc, rfl, hrh, hrc, hb⟩
  have HB : Aside0 (Below W2.heap.size W2 W3) := ⟨hb⟩
  replace HT := Aside0.mk (HT.out.trans (HB.out.mono HT.out.size))
  replace m1 := Aside0.mk (Kd.C_below m1.out HB.out)
  replace m2 := Aside0.mk (Kd.C_below m2.out HB.out)
  replace b := Aside0.mk (blk_below HB.out b.out)
  clear HB
  obtain ⟨Ah, ch, rfl, hc, hC⟩ := Kd.R_reads hrh
  have Mh := Aside0.mk hC
  have Lh := Aside0.mk hc
  clear hc hC hrh
  obtain ⟨Ac, cc, rfl, hc, hC⟩ := Kd.R_reads hrc
  have Mc := Aside0.mk hC
  have Lc := Aside0.mk hc
  clear hc hC hrc
  clear hb
  have rb0 : W3.cell? ⟨w.heap.size, 0, none⟩ = some (.int .i64 ex) := (blk_cell b.out 0).trans rfl
  have fb0 := blk_frozen b.out 0
  have rb1 : W3.cell? ⟨w.heap.size, 1, none⟩ = some (.slice A1 hs.length c1) := (blk_cell b.out 1).trans rfl
  have fb1 := blk_frozen b.out 1
  have rb2 : W3.cell? ⟨w.heap.size, 2, none⟩ = some (.slice A2 cs.length c2) := (blk_cell b.out 2).trans rfl
  have fb2 := blk_frozen b.out 2
  go_wp2_with fail
  clear rb0 fb0 rb1 fb1 rb2 fb2
  refine (corner_Shortage.calls ex Ah ch H Ac cc C lo hi 0 W3 Mh.out Lh.out Mc.out Lc.out es.out).mono ?_
  rintro e W4 ⟨rfl, hb⟩
  have HB : Aside0 (Below W3.heap.size W3 W4) := ⟨hb⟩
  replace HT := Aside0.mk (HT.out.trans (HB.out.mono HT.out.size))
  replace m1 := Aside0.mk (Kd.C_below m1.out HB.out)
  replace m2 := Aside0.mk (Kd.C_below m2.out HB.out)
  replace b := Aside0.mk (blk_below HB.out b.out)
  replace Mh := Aside0.mk (Kd.C_below Mh.out HB.out)
  replace Mc := Aside0.mk (Kd.C_below Mc.out HB.out)
  clear HB
  clear hb
  have rb0 : W4.cell? ⟨w.heap.size, 0, none⟩ = some (.int .i64 ex) := (blk_cell b.out 0).trans rfl
  have fb0 := blk_frozen b.out 0
  have rb1 : W4.cell? ⟨w.heap.size, 1, none⟩ = some (.slice A1 hs.length c1) := (blk_cell b.out 1).trans rfl
  have fb1 := blk_frozen b.out 1
  have rb2 : W4.cell? ⟨w.heap.size, 2, none⟩ = some (.slice A2 cs.length c2) := (blk_cell b.out 2).trans rfl
  have fb2 := blk_frozen b.out 2
  have ab0 : ∀ o, (W4.alloc o).cell? ⟨w.heap.size, 0, none⟩ = some (.int .i64 ex) := fun o => (blk_cell (blk_old b.out o) 0).trans rfl
  have ab1 : ∀ o, (W4.alloc o).cell? ⟨w.heap.size, 1, none⟩ = some (.slice A1 hs.length c1) := fun o => (blk_cell (blk_old b.out o) 1).trans rfl
  have ab2 : ∀ o, (W4.alloc o).cell? ⟨w.heap.size, 2, none⟩ = some (.slice A2 cs.length c2) := fun o => (blk_cell (blk_old b.out o) 2).trans rfl
  go_wp2_with fail
  clear rb0 fb0 rb1 fb1 rb2 fb2 ab0 ab1 ab2
  obtain ⟨W5, HW⟩ : ∃ W, Aside0 (W4.alloc (.cells #[.int .i64 lo, .int .i64 hi] 46) = W) := ⟨_, ⟨rfl⟩⟩
  have Nbr : Aside0 (w.heap.size ≠ W4.heap.size) := ⟨Nat.ne_of_lt (blk_lt b.out)⟩
  have Nrb : Aside0 (W4.heap.size ≠ w.heap.size) := ⟨Nat.ne_of_gt (blk_lt b.out)⟩
  have r : Aside0 (W5.heap[W4.heap.size]? = some (.cells #[.int .i64 lo, .int .i64 hi] 46)) := ⟨by rw [← HW.out]; exact heap_alloc_new W4 _⟩
  have HB : Aside0 (Below W4.heap.size W4 W5) := ⟨by rw [← HW.out]; exact (Below.refl _ _).alloc (Nat.le_refl _) _⟩
  replace HT := Aside0.mk (HT.out.trans (HB.out.mono HT.out.size))
  replace m1 := Aside0.mk (Kd.C_below m1.out HB.out)
  replace m2 := Aside0.mk (Kd.C_below m2.out HB.out)
  replace b := Aside0.mk (blk_below HB.out b.out)
  replace Mh := Aside0.mk (Kd.C_below Mh.out HB.out)
  replace Mc := Aside0.mk (Kd.C_below Mc.out HB.out)
  clear HB
  rw [HW.out]
  clear HW
  clear Mh Mc
  have rb0 : W5.cell? ⟨w.heap.size, 0, none⟩ = some (.int .i64 ex) := (blk_cell b.out 0).trans rfl
  have fb0 := blk_frozen b.out 0
  have rb1 : W5.cell? ⟨w.heap.size, 1, none⟩ = some (.slice A1 hs.length c1) := (blk_cell b.out 1).trans rfl
  have fb1 := blk_frozen b.out 1
  have rb2 : W5.cell? ⟨w.heap.size, 2, none⟩ = some (.slice A2 cs.length c2) := (blk_cell b.out 2).trans rfl
  have fb2 := blk_frozen b.out 2
  have rr0 : W5.cell? ⟨W4.heap.size, 0, none⟩ = some (.int .i64 lo) := (blk_cell r.out 0).trans rfl
  have fr0 := blk_frozen r.out 0
  have rr1 : W5.cell? ⟨W4.heap.size, 1, none⟩ = some (.int .i64 hi) := (blk_cell r.out 1).trans rfl
  have fr1 := blk_frozen r.out 1
  have rNbr := Nbr.out
  have rNrb := Nrb.out
  go_wp2_with fail
  clear rb0 fb0 rb1 fb1 rb2 fb2 rr0 fr0 rr1 fr1 rNbr rNrb
  refine (contangolaw11_Market.calls 3000 ex A1 c1 hs A2 c2 cs ex H C W5 m1.out h1.out m2.out h2.out em.out).mono ?_
  rintro e W6 ⟨vh, vc, rfl, hrh, hrc, hb⟩
  have HB : Aside0 (Below W5.heap.size W5 W6) := ⟨hb⟩
  replace HT := Aside0.mk (HT.out.trans (HB.out.mono HT.out.size))
  replace m1 := Aside0.mk (Kd.C_below m1.out HB.out)
  replace m2 := Aside0.mk (Kd.C_below m2.out HB.out)
  replace b := Aside0.mk (blk_below HB.out b.out)
  replace r := Aside0.mk (blk_below HB.out r.out)
  clear HB
  obtain ⟨Ah, ch, rfl, hc, hC⟩ := Kd.R_reads hrh
  have Mh := Aside0.mk hC
  have Lh := Aside0.mk hc
  clear hc hC hrh
  obtain ⟨Ac, cc, rfl, hc, hC⟩ := Kd.R_reads hrc
  have Mc := Aside0.mk hC
  have Lc := Aside0.mk hc
  clear hc hC hrc
  clear hb
  have rb0 : W6.cell? ⟨w.heap.size, 0, none⟩ = some (.int .i64 ex) := (blk_cell b.out 0).trans rfl
  have fb0 := blk_frozen b.out 0
  have rb1 : W6.cell? ⟨w.heap.size, 1, none⟩ = some (.slice A1 hs.length c1) := (blk_cell b.out 1).trans rfl
  have fb1 := blk_frozen b.out 1
  have rb2 : W6.cell? ⟨w.heap.size, 2, none⟩ = some (.slice A2 cs.length c2) := (blk_cell b.out 2).trans rfl
  have fb2 := blk_frozen b.out 2
  have rr0 : W6.cell? ⟨W4.heap.size, 0, none⟩ = some (.int .i64 lo) := (blk_cell r.out 0).trans rfl
  have fr0 := blk_frozen r.out 0
  have rr1 : W6.cell? ⟨W4.heap.size, 1, none⟩ = some (.int .i64 hi) := (blk_cell r.out 1).trans rfl
  have fr1 := blk_frozen r.out 1
  have rNbr := Nbr.out
  have rNrb := Nrb.out
  go_wp2_with fail
  clear rb0 fb0 rb1 fb1 rb2 fb2 rr0 fr0 rr1 fr1 rNbr rNrb
  refine (corner_Show.calls ex Ah ch H Ac cc C false t 0 W6 Mh.out Lh.out Mc.out Lc.out eh.out).mono ?_
  rintro e W7 ⟨vn, rfl, hrn, hb⟩
  have HB : Aside0 (Below W6.heap.size W6 W7) := ⟨hb⟩
  replace HT := Aside0.mk (HT.out.trans (HB.out.mono HT.out.size))
  replace m1 := Aside0.mk (Kd.C_below m1.out HB.out)
  replace m2 := Aside0.mk (Kd.C_below m2.out HB.out)
  replace b := Aside0.mk (blk_below HB.out b.out)
  replace r := Aside0.mk (blk_below HB.out r.out)
  replace Mh := Aside0.mk (Kd.C_below Mh.out HB.out)
  replace Mc := Aside0.mk (Kd.C_below Mc.out HB.out)
  clear HB
  obtain ⟨An, cn, rfl, hc, hC⟩ := Kd.R_reads hrn
  have Mn := Aside0.mk hC
  have Ln := Aside0.mk hc
  clear hc hC hrn
  clear hb
  have rb0 : W7.cell? ⟨w.heap.size, 0, none⟩ = some (.int .i64 ex) := (blk_cell b.out 0).trans rfl
  have fb0 := blk_frozen b.out 0
  have rb1 : W7.cell? ⟨w.heap.size, 1, none⟩ = some (.slice A1 hs.length c1) := (blk_cell b.out 1).trans rfl
  have fb1 := blk_frozen b.out 1
  have rb2 : W7.cell? ⟨w.heap.size, 2, none⟩ = some (.slice A2 cs.length c2) := (blk_cell b.out 2).trans rfl
  have fb2 := blk_frozen b.out 2
  have rr0 : W7.cell? ⟨W4.heap.size, 0, none⟩ = some (.int .i64 lo) := (blk_cell r.out 0).trans rfl
  have fr0 := blk_frozen r.out 0
  have rr1 : W7.cell? ⟨W4.heap.size, 1, none⟩ = some (.int .i64 hi) := (blk_cell r.out 1).trans rfl
  have fr1 := blk_frozen r.out 1
  have rNbr := Nbr.out
  have rNrb := Nrb.out
  go_wp2_with fail
  clear rb0 fb0 rb1 fb1 rb2 fb2 rr0 fr0 rr1 fr1 rNbr rNrb
  clear Mh Mc
  refine (contangolaw11_Market.calls 3000 ex A1 c1 hs A2 c2 cs ex H C W7 m1.out h1.out m2.out h2.out em.out).mono ?_
  rintro e W8 ⟨vh, vc, rfl, hrh, hrc, hb⟩
  have HB : Aside0 (Below W7.heap.size W7 W8) := ⟨hb⟩
  replace HT := Aside0.mk (HT.out.trans (HB.out.mono HT.out.size))
  replace m1 := Aside0.mk (Kd.C_below m1.out HB.out)
  replace m2 := Aside0.mk (Kd.C_below m2.out HB.out)
  replace b := Aside0.mk (blk_below HB.out b.out)
  replace r := Aside0.mk (blk_below HB.out r.out)
  replace Mn := Aside0.mk (Kd.C_below Mn.out HB.out)
  clear HB
  obtain ⟨Ah, ch, rfl, hc, hC⟩ := Kd.R_reads hrh
  have Mh := Aside0.mk hC
  have Lh := Aside0.mk hc
  clear hc hC hrh
  obtain ⟨Ac, cc, rfl, hc, hC⟩ := Kd.R_reads hrc
  have Mc := Aside0.mk hC
  have Lc := Aside0.mk hc
  clear hc hC hrc
  clear hb
  have rb0 : W8.cell? ⟨w.heap.size, 0, none⟩ = some (.int .i64 ex) := (blk_cell b.out 0).trans rfl
  have fb0 := blk_frozen b.out 0
  have rb1 : W8.cell? ⟨w.heap.size, 1, none⟩ = some (.slice A1 hs.length c1) := (blk_cell b.out 1).trans rfl
  have fb1 := blk_frozen b.out 1
  have rb2 : W8.cell? ⟨w.heap.size, 2, none⟩ = some (.slice A2 cs.length c2) := (blk_cell b.out 2).trans rfl
  have fb2 := blk_frozen b.out 2
  have rr0 : W8.cell? ⟨W4.heap.size, 0, none⟩ = some (.int .i64 lo) := (blk_cell r.out 0).trans rfl
  have fr0 := blk_frozen r.out 0
  have rr1 : W8.cell? ⟨W4.heap.size, 1, none⟩ = some (.int .i64 hi) := (blk_cell r.out 1).trans rfl
  have fr1 := blk_frozen r.out 1
  have rNbr := Nbr.out
  have rNrb := Nrb.out
  go_wp2_with fail
  clear rb0 fb0 rb1 fb1 rb2 fb2 rr0 fr0 rr1 fr1 rNbr rNrb
  refine (corner_Cornered.calls ex Ah ch H Ac cc C (decide (lo > 0)) (decide (hi > 0)) 0 W8 Mh.out Lh.out Mc.out Lc.out ec.out).mono ?_
  rintro e W9 ⟨rfl, hb⟩
  have HB : Aside0 (Below W8.heap.size W8 W9) := ⟨hb⟩
  replace HT := Aside0.mk (HT.out.trans (HB.out.mono HT.out.size))
  replace m1 := Aside0.mk (Kd.C_below m1.out HB.out)
  replace m2 := Aside0.mk (Kd.C_below m2.out HB.out)
  replace b := Aside0.mk (blk_below HB.out b.out)
  replace r := Aside0.mk (blk_below HB.out r.out)
  replace Mn := Aside0.mk (Kd.C_below Mn.out HB.out)
  replace Mh := Aside0.mk (Kd.C_below Mh.out HB.out)
  replace Mc := Aside0.mk (Kd.C_below Mc.out HB.out)
  clear HB
  clear hb
  have rb0 : W9.cell? ⟨w.heap.size, 0, none⟩ = some (.int .i64 ex) := (blk_cell b.out 0).trans rfl
  have fb0 := blk_frozen b.out 0
  have rb1 : W9.cell? ⟨w.heap.size, 1, none⟩ = some (.slice A1 hs.length c1) := (blk_cell b.out 1).trans rfl
  have fb1 := blk_frozen b.out 1
  have rb2 : W9.cell? ⟨w.heap.size, 2, none⟩ = some (.slice A2 cs.length c2) := (blk_cell b.out 2).trans rfl
  have fb2 := blk_frozen b.out 2
  have rr0 : W9.cell? ⟨W4.heap.size, 0, none⟩ = some (.int .i64 lo) := (blk_cell r.out 0).trans rfl
  have fr0 := blk_frozen r.out 0
  have rr1 : W9.cell? ⟨W4.heap.size, 1, none⟩ = some (.int .i64 hi) := (blk_cell r.out 1).trans rfl
  have fr1 := blk_frozen r.out 1
  have rNbr := Nbr.out
  have rNrb := Nrb.out
  go_wp2_with fail
  clear rb0 fb0 rb1 fb1 rb2 fb2 rr0 fr0 rr1 fr1 rNbr rNrb
  clear Mh Mc
  refine (contangolaw11_fault.calls 3000 ex A1 c1 hs A2 c2 cs 0 W9 m1.out h1.out m2.out h2.out ef.out).mono ?_
  rintro e W10 ⟨rfl, hb⟩
  have HB : Aside0 (Below W9.heap.size W9 W10) := ⟨hb⟩
  replace HT := Aside0.mk (HT.out.trans (HB.out.mono HT.out.size))
  replace m1 := Aside0.mk (Kd.C_below m1.out HB.out)
  replace m2 := Aside0.mk (Kd.C_below m2.out HB.out)
  replace b := Aside0.mk (blk_below HB.out b.out)
  replace r := Aside0.mk (blk_below HB.out r.out)
  replace Mn := Aside0.mk (Kd.C_below Mn.out HB.out)
  clear HB
  clear hb
  have rb0 : W10.cell? ⟨w.heap.size, 0, none⟩ = some (.int .i64 ex) := (blk_cell b.out 0).trans rfl
  have fb0 := blk_frozen b.out 0
  have rb1 : W10.cell? ⟨w.heap.size, 1, none⟩ = some (.slice A1 hs.length c1) := (blk_cell b.out 1).trans rfl
  have fb1 := blk_frozen b.out 1
  have rb2 : W10.cell? ⟨w.heap.size, 2, none⟩ = some (.slice A2 cs.length c2) := (blk_cell b.out 2).trans rfl
  have fb2 := blk_frozen b.out 2
  have rr0 : W10.cell? ⟨W4.heap.size, 0, none⟩ = some (.int .i64 lo) := (blk_cell r.out 0).trans rfl
  have fr0 := blk_frozen r.out 0
  have rr1 : W10.cell? ⟨W4.heap.size, 1, none⟩ = some (.int .i64 hi) := (blk_cell r.out 1).trans rfl
  have fr1 := blk_frozen r.out 1
  have rNbr := Nbr.out
  have rNrb := Nrb.out
  have ab0 : ∀ o, (W10.alloc o).cell? ⟨w.heap.size, 0, none⟩ = some (.int .i64 ex) := fun o => (blk_cell (blk_old b.out o) 0).trans rfl
  have ab1 : ∀ o, (W10.alloc o).cell? ⟨w.heap.size, 1, none⟩ = some (.slice A1 hs.length c1) := fun o => (blk_cell (blk_old b.out o) 1).trans rfl
  have ab2 : ∀ o, (W10.alloc o).cell? ⟨w.heap.size, 2, none⟩ = some (.slice A2 cs.length c2) := fun o => (blk_cell (blk_old b.out o) 2).trans rfl
  have ar0 : ∀ o, (W10.alloc o).cell? ⟨W4.heap.size, 0, none⟩ = some (.int .i64 lo) := fun o => (blk_cell (blk_old r.out o) 0).trans rfl
  have ar1 : ∀ o, (W10.alloc o).cell? ⟨W4.heap.size, 1, none⟩ = some (.int .i64 hi) := fun o => (blk_cell (blk_old r.out o) 1).trans rfl
  go_wp2_with fail
  clear rb0 fb0 rb1 fb1 rb2 fb2 rr0 fr0 rr1 fr1 rNbr rNrb ab0 ab1 ab2 ar0 ar1
  obtain ⟨W11, HW⟩ : ∃ W, Aside0 (W10.alloc (.cells #[.int .i64 0, .int .i64 0] 53) = W) := ⟨_, ⟨rfl⟩⟩
  have Nbd : Aside0 (w.heap.size ≠ W10.heap.size) := ⟨Nat.ne_of_lt (blk_lt b.out)⟩
  have Ndb : Aside0 (W10.heap.size ≠ w.heap.size) := ⟨Nat.ne_of_gt (blk_lt b.out)⟩
  have Nrd : Aside0 (W4.heap.size ≠ W10.heap.size) := ⟨Nat.ne_of_lt (blk_lt r.out)⟩
  have Ndr : Aside0 (W10.heap.size ≠ W4.heap.size) := ⟨Nat.ne_of_gt (blk_lt r.out)⟩
  have HTd : Aside0 (Below W10.heap.size W10 W10) := ⟨Below.refl _ _⟩
  have m1_d := m1
  have m2_d := m2
  have b_d := b
  have r_d := r
  have Mn_d := Mn
  have HLd : Aside0 (Below w.heap.size w W10) := HT
  have d : Aside0 (W11.heap[W10.heap.size]? = some (.cells #[.int .i64 0, .int .i64 0] 53)) := ⟨by rw [← HW.out]; exact heap_alloc_new W10 _⟩
  have HB : Aside0 (Below W10.heap.size W10 W11) := ⟨by rw [← HW.out]; exact (Below.refl _ _).alloc (Nat.le_refl _) _⟩
  replace HT := Aside0.mk (HT.out.trans (HB.out.mono HT.out.size))
  replace HTd := Aside0.mk (HTd.out.trans (HB.out.mono HTd.out.size))
  replace m1 := Aside0.mk (Kd.C_below m1.out HB.out)
  replace m2 := Aside0.mk (Kd.C_below m2.out HB.out)
  replace b := Aside0.mk (blk_below HB.out b.out)
  replace r := Aside0.mk (blk_below HB.out r.out)
  replace Mn := Aside0.mk (Kd.C_below Mn.out HB.out)
  clear HB
  rw [HW.out]
  clear HW
  have rb0 : W11.cell? ⟨w.heap.size, 0, none⟩ = some (.int .i64 ex) := (blk_cell b.out 0).trans rfl
  have fb0 := blk_frozen b.out 0
  have rb1 : W11.cell? ⟨w.heap.size, 1, none⟩ = some (.slice A1 hs.length c1) := (blk_cell b.out 1).trans rfl
  have fb1 := blk_frozen b.out 1
  have rb2 : W11.cell? ⟨w.heap.size, 2, none⟩ = some (.slice A2 cs.length c2) := (blk_cell b.out 2).trans rfl
  have fb2 := blk_frozen b.out 2
  have rr0 : W11.cell? ⟨W4.heap.size, 0, none⟩ = some (.int .i64 lo) := (blk_cell r.out 0).trans rfl
  have fr0 := blk_frozen r.out 0
  have rr1 : W11.cell? ⟨W4.heap.size, 1, none⟩ = some (.int .i64 hi) := (blk_cell r.out 1).trans rfl
  have fr1 := blk_frozen r.out 1
  have rd0 : W11.cell? ⟨W10.heap.size, 0, none⟩ = some (.int .i64 0) := (blk_cell d.out 0).trans rfl
  have fd0 := blk_frozen d.out 0
  have rd1 : W11.cell? ⟨W10.heap.size, 1, none⟩ = some (.int .i64 0) := (blk_cell d.out 1).trans rfl
  have fd1 := blk_frozen d.out 1
  have rNbr := Nbr.out
  have rNrb := Nrb.out
  have rNbd := Nbd.out
  have rNdb := Ndb.out
  have rNrd := Nrd.out
  have rNdr := Ndr.out
  go_wp2_with fail
  clear rb0 fb0 rb1 fb1 rb2 fb2 rr0 fr0 rr1 fr1 rd0 fd0 rd1 fd1 rNbr rNrb rNbd rNdb rNrd rNdr
  refine (contangoref11_Bounds.calls 1000000 ex A1 c1 hs A2 c2 cs lo hi true W11 m1.out h1.out m2.out h2.out eb.out).mono ?_
  rintro e W12 ⟨rfl, hb⟩
  have HB : Aside0 (Below W11.heap.size W11 W12) := ⟨hb⟩
  replace HT := Aside0.mk (HT.out.trans (HB.out.mono HT.out.size))
  replace HTd := Aside0.mk (HTd.out.trans (HB.out.mono HTd.out.size))
  replace m1 := Aside0.mk (Kd.C_below m1.out HB.out)
  replace m2 := Aside0.mk (Kd.C_below m2.out HB.out)
  replace b := Aside0.mk (blk_below HB.out b.out)
  replace r := Aside0.mk (blk_below HB.out r.out)
  replace Mn := Aside0.mk (Kd.C_below Mn.out HB.out)
  replace d := Aside0.mk (blk_below HB.out d.out)
  clear HB
  clear hb
  have rb0 : W12.cell? ⟨w.heap.size, 0, none⟩ = some (.int .i64 ex) := (blk_cell b.out 0).trans rfl
  have fb0 := blk_frozen b.out 0
  have rb1 : W12.cell? ⟨w.heap.size, 1, none⟩ = some (.slice A1 hs.length c1) := (blk_cell b.out 1).trans rfl
  have fb1 := blk_frozen b.out 1
  have rb2 : W12.cell? ⟨w.heap.size, 2, none⟩ = some (.slice A2 cs.length c2) := (blk_cell b.out 2).trans rfl
  have fb2 := blk_frozen b.out 2
  have rr0 : W12.cell? ⟨W4.heap.size, 0, none⟩ = some (.int .i64 lo) := (blk_cell r.out 0).trans rfl
  have fr0 := blk_frozen r.out 0
  have rr1 : W12.cell? ⟨W4.heap.size, 1, none⟩ = some (.int .i64 hi) := (blk_cell r.out 1).trans rfl
  have fr1 := blk_frozen r.out 1
  have rd0 : W12.cell? ⟨W10.heap.size, 0, none⟩ = some (.int .i64 0) := (blk_cell d.out 0).trans rfl
  have fd0 := blk_frozen d.out 0
  have rd1 : W12.cell? ⟨W10.heap.size, 1, none⟩ = some (.int .i64 0) := (blk_cell d.out 1).trans rfl
  have fd1 := blk_frozen d.out 1
  have rNbr := Nbr.out
  have rNrb := Nrb.out
  have rNbd := Nbd.out
  have rNdb := Ndb.out
  have rNrd := Nrd.out
  have rNdr := Ndr.out
  go_wp2_with fail
  clear rb0 fb0 rb1 fb1 rb2 fb2 rr0 fr0 rr1 fr1 rd0 fd0 rd1 fd1 rNbr rNrb rNbd rNdb rNrd rNdr
  obtain ⟨W13, HW⟩ : ∃ W, Aside0 (((W12.setCell ⟨W10.heap.size, 0, none⟩ (.int .i64 lo)).setCell ⟨W10.heap.size, 1, none⟩ (.int .i64 hi)) = W) := ⟨_, ⟨rfl⟩⟩
  replace HT : Aside0 (Below w.heap.size w W13) := ⟨by rw [← HW.out]; exact (below_set (below_set HT.out HLd.out.size) HLd.out.size)⟩
  replace HTd : Aside0 (Below W10.heap.size W10 W13) := ⟨by rw [← HW.out]; exact (below_set (below_set HTd.out (Nat.le_refl _)) (Nat.le_refl _))⟩
  replace d : Aside0 (W13.heap[W10.heap.size]? = some (.cells #[.int .i64 lo, .int .i64 hi] 53)) := ⟨by rw [← HW.out]; exact (blk_put (blk_put d.out 0 _ rfl) 1 _ rfl)⟩
  replace m1 := Aside0.mk (Kd.C_below m1_d.out HTd.out)
  replace m2 := Aside0.mk (Kd.C_below m2_d.out HTd.out)
  replace b := Aside0.mk (blk_below HTd.out b_d.out)
  replace r := Aside0.mk (blk_below HTd.out r_d.out)
  replace Mn := Aside0.mk (Kd.C_below Mn_d.out HTd.out)
  rw [HW.out]
  clear HW
  have rb0 : W13.cell? ⟨w.heap.size, 0, none⟩ = some (.int .i64 ex) := (blk_cell b.out 0).trans rfl
  have fb0 := blk_frozen b.out 0
  have rb1 : W13.cell? ⟨w.heap.size, 1, none⟩ = some (.slice A1 hs.length c1) := (blk_cell b.out 1).trans rfl
  have fb1 := blk_frozen b.out 1
  have rb2 : W13.cell? ⟨w.heap.size, 2, none⟩ = some (.slice A2 cs.length c2) := (blk_cell b.out 2).trans rfl
  have fb2 := blk_frozen b.out 2
  have rr0 : W13.cell? ⟨W4.heap.size, 0, none⟩ = some (.int .i64 lo) := (blk_cell r.out 0).trans rfl
  have fr0 := blk_frozen r.out 0
  have rr1 : W13.cell? ⟨W4.heap.size, 1, none⟩ = some (.int .i64 hi) := (blk_cell r.out 1).trans rfl
  have fr1 := blk_frozen r.out 1
  have rd0 : W13.cell? ⟨W10.heap.size, 0, none⟩ = some (.int .i64 lo) := (blk_cell d.out 0).trans rfl
  have fd0 := blk_frozen d.out 0
  have rd1 : W13.cell? ⟨W10.heap.size, 1, none⟩ = some (.int .i64 hi) := (blk_cell d.out 1).trans rfl
  have fd1 := blk_frozen d.out 1
  have rNbr := Nbr.out
  have rNrb := Nrb.out
  have rNbd := Nbd.out
  have rNdb := Ndb.out
  have rNrd := Nrd.out
  have rNdr := Ndr.out
  go_wp2_with fail
  clear rb0 fb0 rb1 fb1 rb2 fb2 rr0 fr0 rr1 fr1 rd0 fd0 rd1 fd1 rNbr rNrb rNbd rNdb rNrd rNdr
  refine (contangoref11_IsTruth.calls 3000 ex A1 c1 hs A2 c2 cs An cn t true W13 m1.out h1.out m2.out h2.out Mn.out Ln.out ei.out).mono ?_
  rintro e W14 ⟨rfl, hb⟩
  have HB : Aside0 (Below W13.heap.size W13 W14) := ⟨hb⟩
  replace HT := Aside0.mk (HT.out.trans (HB.out.mono HT.out.size))
  replace HTd := Aside0.mk (HTd.out.trans (HB.out.mono HTd.out.size))
  replace m1 := Aside0.mk (Kd.C_below m1.out HB.out)
  replace m2 := Aside0.mk (Kd.C_below m2.out HB.out)
  replace b := Aside0.mk (blk_below HB.out b.out)
  replace r := Aside0.mk (blk_below HB.out r.out)
  replace Mn := Aside0.mk (Kd.C_below Mn.out HB.out)
  replace d := Aside0.mk (blk_below HB.out d.out)
  clear HB
  clear hb
  have rb0 : W14.cell? ⟨w.heap.size, 0, none⟩ = some (.int .i64 ex) := (blk_cell b.out 0).trans rfl
  have fb0 := blk_frozen b.out 0
  have rb1 : W14.cell? ⟨w.heap.size, 1, none⟩ = some (.slice A1 hs.length c1) := (blk_cell b.out 1).trans rfl
  have fb1 := blk_frozen b.out 1
  have rb2 : W14.cell? ⟨w.heap.size, 2, none⟩ = some (.slice A2 cs.length c2) := (blk_cell b.out 2).trans rfl
  have fb2 := blk_frozen b.out 2
  have rr0 : W14.cell? ⟨W4.heap.size, 0, none⟩ = some (.int .i64 lo) := (blk_cell r.out 0).trans rfl
  have fr0 := blk_frozen r.out 0
  have rr1 : W14.cell? ⟨W4.heap.size, 1, none⟩ = some (.int .i64 hi) := (blk_cell r.out 1).trans rfl
  have fr1 := blk_frozen r.out 1
  have rd0 : W14.cell? ⟨W10.heap.size, 0, none⟩ = some (.int .i64 lo) := (blk_cell d.out 0).trans rfl
  have fd0 := blk_frozen d.out 0
  have rd1 : W14.cell? ⟨W10.heap.size, 1, none⟩ = some (.int .i64 hi) := (blk_cell d.out 1).trans rfl
  have fd1 := blk_frozen d.out 1
  have rNbr := Nbr.out
  have rNrb := Nrb.out
  have rNbd := Nbd.out
  have rNdb := Ndb.out
  have rNrd := Nrd.out
  have rNdr := Ndr.out
  go_wp2_with fail
  clear rb0 fb0 rb1 fb1 rb2 fb2 rr0 fr0 rr1 fr1 rd0 fd0 rd1 fd1 rNbr rNrb rNbd rNdb rNrd rNdr
  refine (contangoref11_Short.calls 3000 ex A1 c1 hs A2 c2 cs An cn t lo W14 m1.out h1.out m2.out h2.out Mn.out Ln.out eo.out).mono ?_
  rintro e W15 ⟨rfl, hb⟩
  have HB : Aside0 (Below W14.heap.size W14 W15) := ⟨hb⟩
  replace HT := Aside0.mk (HT.out.trans (HB.out.mono HT.out.size))
  replace HTd := Aside0.mk (HTd.out.trans (HB.out.mono HTd.out.size))
  replace m1 := Aside0.mk (Kd.C_below m1.out HB.out)
  replace m2 := Aside0.mk (Kd.C_below m2.out HB.out)
  replace b := Aside0.mk (blk_below HB.out b.out)
  replace r := Aside0.mk (blk_below HB.out r.out)
  replace Mn := Aside0.mk (Kd.C_below Mn.out HB.out)
  replace d := Aside0.mk (blk_below HB.out d.out)
  clear HB
  clear hb
  have rb0 : W15.cell? ⟨w.heap.size, 0, none⟩ = some (.int .i64 ex) := (blk_cell b.out 0).trans rfl
  have fb0 := blk_frozen b.out 0
  have rb1 : W15.cell? ⟨w.heap.size, 1, none⟩ = some (.slice A1 hs.length c1) := (blk_cell b.out 1).trans rfl
  have fb1 := blk_frozen b.out 1
  have rb2 : W15.cell? ⟨w.heap.size, 2, none⟩ = some (.slice A2 cs.length c2) := (blk_cell b.out 2).trans rfl
  have fb2 := blk_frozen b.out 2
  have rr0 : W15.cell? ⟨W4.heap.size, 0, none⟩ = some (.int .i64 lo) := (blk_cell r.out 0).trans rfl
  have fr0 := blk_frozen r.out 0
  have rr1 : W15.cell? ⟨W4.heap.size, 1, none⟩ = some (.int .i64 hi) := (blk_cell r.out 1).trans rfl
  have fr1 := blk_frozen r.out 1
  have rd0 : W15.cell? ⟨W10.heap.size, 0, none⟩ = some (.int .i64 lo) := (blk_cell d.out 0).trans rfl
  have fd0 := blk_frozen d.out 0
  have rd1 : W15.cell? ⟨W10.heap.size, 1, none⟩ = some (.int .i64 hi) := (blk_cell d.out 1).trans rfl
  have fd1 := blk_frozen d.out 1
  have rNbr := Nbr.out
  have rNrb := Nrb.out
  have rNbd := Nbd.out
  have rNdb := Ndb.out
  have rNrd := Nrd.out
  have rNdr := Ndr.out
  go_wp2_with fail
  clear rb0 fb0 rb1 fb1 rb2 fb2 rr0 fr0 rr1 fr1 rd0 fd0 rd1 fd1 rNbr rNrb rNbd rNdb rNrd rNdr
  refine (contangolaw11_awake.calls true W15 rfl).mono ?_
  rintro e W16 ⟨rfl, hb⟩
  have HB : Aside0 (Below W15.heap.size W15 W16) := ⟨hb⟩
  replace HT := Aside0.mk (HT.out.trans (HB.out.mono HT.out.size))
  replace HTd := Aside0.mk (HTd.out.trans (HB.out.mono HTd.out.size))
  replace m1 := Aside0.mk (Kd.C_below m1.out HB.out)
  replace m2 := Aside0.mk (Kd.C_below m2.out HB.out)
  replace b := Aside0.mk (blk_below HB.out b.out)
  replace r := Aside0.mk (blk_below HB.out r.out)
  replace Mn := Aside0.mk (Kd.C_below Mn.out HB.out)
  replace d := Aside0.mk (blk_below HB.out d.out)
  clear HB
  clear hb
  have rb0 : W16.cell? ⟨w.heap.size, 0, none⟩ = some (.int .i64 ex) := (blk_cell b.out 0).trans rfl
  have fb0 := blk_frozen b.out 0
  have rb1 : W16.cell? ⟨w.heap.size, 1, none⟩ = some (.slice A1 hs.length c1) := (blk_cell b.out 1).trans rfl
  have fb1 := blk_frozen b.out 1
  have rb2 : W16.cell? ⟨w.heap.size, 2, none⟩ = some (.slice A2 cs.length c2) := (blk_cell b.out 2).trans rfl
  have fb2 := blk_frozen b.out 2
  have rr0 : W16.cell? ⟨W4.heap.size, 0, none⟩ = some (.int .i64 lo) := (blk_cell r.out 0).trans rfl
  have fr0 := blk_frozen r.out 0
  have rr1 : W16.cell? ⟨W4.heap.size, 1, none⟩ = some (.int .i64 hi) := (blk_cell r.out 1).trans rfl
  have fr1 := blk_frozen r.out 1
  have rd0 : W16.cell? ⟨W10.heap.size, 0, none⟩ = some (.int .i64 lo) := (blk_cell d.out 0).trans rfl
  have fd0 := blk_frozen d.out 0
  have rd1 : W16.cell? ⟨W10.heap.size, 1, none⟩ = some (.int .i64 hi) := (blk_cell d.out 1).trans rfl
  have fd1 := blk_frozen d.out 1
  have rNbr := Nbr.out
  have rNrb := Nrb.out
  have rNbd := Nbd.out
  have rNdb := Ndb.out
  have rNrd := Nrd.out
  have rNdr := Ndr.out
  go_wp2_with fail
  clear rb0 fb0 rb1 fb1 rb2 fb2 rr0 fr0 rr1 fr1 rd0 fd0 rd1 fd1 rNbr rNrb rNbd rNdb rNrd rNdr
  go_ret
  exact ⟨rfl, HT.out⟩
set_option maxHeartbeats 4000000 in
set_option maxRecDepth 100000 in
theorem law4_yes_hi (ex : Int) (A1 : Option Addr) (c1 : Nat) (hs : List S88) (A2 : Option Addr) (c2 : Nat) (cs : List S101) (H : List S73) (C : List S75) (lo hi : Int) (t : List Int) (w : World) (m1 : Kd.C k88 w A1 hs.length hs) (h1 : hs.length ≤ c1) (m2 : Kd.C k101 w A2 cs.length cs) (h2 : cs.length ≤ c2) (efew : contangolaw11_few.f 3000 ex hs cs 3000 = some true) (em : contangolaw11_Market.f 3000 ex hs cs = some (ex, H, C)) (es : corner_Shortage.f ex H C = some (lo, hi, 0)) (eh : corner_Show.f ex H C true = some (t, 0)) (ec : corner_Cornered.f ex H C = some (decide (lo > 0), decide (hi > 0), 0)) (ef : contangolaw11_fault.f 3000 ex hs cs = some 0) (eb : contangoref11_Bounds.f 1000000 ex hs cs = some (lo, hi, true)) (ei : contangoref11_IsTruth.f 3000 ex hs cs t = some true) (eo : contangoref11_Short.f 3000 ex hs cs t = some hi) :
    Calls Try.prog 4 #[.agg #[.int .i64 ex, .slice A1 hs.length c1, .slice A2 cs.length c2], .bool true] w fun e w' => e = .returned (.bool true) ∧ Below w.heap.size w w' := by
  replace m1 := Aside0.mk m1
  replace h1 := Aside0.mk h1
  replace m2 := Aside0.mk m2
  replace h2 := Aside0.mk h2
  replace efew := Aside0.mk efew
  replace em := Aside0.mk em
  replace es := Aside0.mk es
  replace eh := Aside0.mk eh
  replace ec := Aside0.mk ec
  replace ef := Aside0.mk ef
  replace eb := Aside0.mk eb
  replace ei := Aside0.mk ei
  replace eo := Aside0.mk eo
  have HT : Aside0 (Below w.heap.size w w) := ⟨Below.refl _ _⟩
  go_enter Try.func4, Try.ntmps4
  go_wp2_with fail
  have heq := fun w => eqA46 9998 w lo lo hi hi
  obtain ⟨W1, HW⟩ : ∃ W, Aside0 (w.alloc (.cells #[.int .i64 ex, .slice A1 hs.length c1, .slice A2 cs.length c2] 25) = W) := ⟨_, ⟨rfl⟩⟩
  have b : Aside0 (W1.heap[w.heap.size]? = some (.cells #[.int .i64 ex, .slice A1 hs.length c1, .slice A2 cs.length c2] 25)) := ⟨by rw [← HW.out]; exact heap_alloc_new w _⟩
  have HB : Aside0 (Below w.heap.size w W1) := ⟨by rw [← HW.out]; exact (Below.refl _ _).alloc (Nat.le_refl _) _⟩
  replace HT := Aside0.mk (HT.out.trans (HB.out.mono HT.out.size))
  replace m1 := Aside0.mk (Kd.C_below m1.out HB.out)
  replace m2 := Aside0.mk (Kd.C_below m2.out HB.out)
  clear HB
  rw [HW.out]
  clear HW
  have rb0 : W1.cell? ⟨w.heap.size, 0, none⟩ = some (.int .i64 ex) := (blk_cell b.out 0).trans rfl
  have fb0 := blk_frozen b.out 0
  have rb1 : W1.cell? ⟨w.heap.size, 1, none⟩ = some (.slice A1 hs.length c1) := (blk_cell b.out 1).trans rfl
  have fb1 := blk_frozen b.out 1
  have rb2 : W1.cell? ⟨w.heap.size, 2, none⟩ = some (.slice A2 cs.length c2) := (blk_cell b.out 2).trans rfl
  have fb2 := blk_frozen b.out 2
  go_wp2_with fail
  clear rb0 fb0 rb1 fb1 rb2 fb2
  refine (contangolaw11_few.calls 3000 ex A1 c1 hs A2 c2 cs 3000 true W1 m1.out h1.out m2.out h2.out efew.out).mono ?_
  rintro e W2 ⟨rfl, hb⟩
  have HB : Aside0 (Below W1.heap.size W1 W2) := ⟨hb⟩
  replace HT := Aside0.mk (HT.out.trans (HB.out.mono HT.out.size))
  replace m1 := Aside0.mk (Kd.C_below m1.out HB.out)
  replace m2 := Aside0.mk (Kd.C_below m2.out HB.out)
  replace b := Aside0.mk (blk_below HB.out b.out)
  clear HB
  clear hb
  have rb0 : W2.cell? ⟨w.heap.size, 0, none⟩ = some (.int .i64 ex) := (blk_cell b.out 0).trans rfl
  have fb0 := blk_frozen b.out 0
  have rb1 : W2.cell? ⟨w.heap.size, 1, none⟩ = some (.slice A1 hs.length c1) := (blk_cell b.out 1).trans rfl
  have fb1 := blk_frozen b.out 1
  have rb2 : W2.cell? ⟨w.heap.size, 2, none⟩ = some (.slice A2 cs.length c2) := (blk_cell b.out 2).trans rfl
  have fb2 := blk_frozen b.out 2
  go_wp2_with fail
  clear rb0 fb0 rb1 fb1 rb2 fb2
  refine (contangolaw11_Market.calls 3000 ex A1 c1 hs A2 c2 cs ex H C W2 m1.out h1.out m2.out h2.out em.out).mono ?_
  rintro e W3 ⟨vh, vc, rfl, hrh, hrc, hb⟩
  have HB : Aside0 (Below W2.heap.size W2 W3) := ⟨hb⟩
  replace HT := Aside0.mk (HT.out.trans (HB.out.mono HT.out.size))
  replace m1 := Aside0.mk (Kd.C_below m1.out HB.out)
  replace m2 := Aside0.mk (Kd.C_below m2.out HB.out)
  replace b := Aside0.mk (blk_below HB.out b.out)
  clear HB
  obtain ⟨Ah, ch, rfl, hc, hC⟩ := Kd.R_reads hrh
  have Mh := Aside0.mk hC
  have Lh := Aside0.mk hc
  clear hc hC hrh
  obtain ⟨Ac, cc, rfl, hc, hC⟩ := Kd.R_reads hrc
  have Mc := Aside0.mk hC
  have Lc := Aside0.mk hc
  clear hc hC hrc
  clear hb
  have rb0 : W3.cell? ⟨w.heap.size, 0, none⟩ = some (.int .i64 ex) := (blk_cell b.out 0).trans rfl
  have fb0 := blk_frozen b.out 0
  have rb1 : W3.cell? ⟨w.heap.size, 1, none⟩ = some (.slice A1 hs.length c1) := (blk_cell b.out 1).trans rfl
  have fb1 := blk_frozen b.out 1
  have rb2 : W3.cell? ⟨w.heap.size, 2, none⟩ = some (.slice A2 cs.length c2) := (blk_cell b.out 2).trans rfl
  have fb2 := blk_frozen b.out 2
  go_wp2_with fail
  clear rb0 fb0 rb1 fb1 rb2 fb2
  refine (corner_Shortage.calls ex Ah ch H Ac cc C lo hi 0 W3 Mh.out Lh.out Mc.out Lc.out es.out).mono ?_
  rintro e W4 ⟨rfl, hb⟩
  have HB : Aside0 (Below W3.heap.size W3 W4) := ⟨hb⟩
  replace HT := Aside0.mk (HT.out.trans (HB.out.mono HT.out.size))
  replace m1 := Aside0.mk (Kd.C_below m1.out HB.out)
  replace m2 := Aside0.mk (Kd.C_below m2.out HB.out)
  replace b := Aside0.mk (blk_below HB.out b.out)
  replace Mh := Aside0.mk (Kd.C_below Mh.out HB.out)
  replace Mc := Aside0.mk (Kd.C_below Mc.out HB.out)
  clear HB
  clear hb
  have rb0 : W4.cell? ⟨w.heap.size, 0, none⟩ = some (.int .i64 ex) := (blk_cell b.out 0).trans rfl
  have fb0 := blk_frozen b.out 0
  have rb1 : W4.cell? ⟨w.heap.size, 1, none⟩ = some (.slice A1 hs.length c1) := (blk_cell b.out 1).trans rfl
  have fb1 := blk_frozen b.out 1
  have rb2 : W4.cell? ⟨w.heap.size, 2, none⟩ = some (.slice A2 cs.length c2) := (blk_cell b.out 2).trans rfl
  have fb2 := blk_frozen b.out 2
  have ab0 : ∀ o, (W4.alloc o).cell? ⟨w.heap.size, 0, none⟩ = some (.int .i64 ex) := fun o => (blk_cell (blk_old b.out o) 0).trans rfl
  have ab1 : ∀ o, (W4.alloc o).cell? ⟨w.heap.size, 1, none⟩ = some (.slice A1 hs.length c1) := fun o => (blk_cell (blk_old b.out o) 1).trans rfl
  have ab2 : ∀ o, (W4.alloc o).cell? ⟨w.heap.size, 2, none⟩ = some (.slice A2 cs.length c2) := fun o => (blk_cell (blk_old b.out o) 2).trans rfl
  go_wp2_with fail
  clear rb0 fb0 rb1 fb1 rb2 fb2 ab0 ab1 ab2
  obtain ⟨W5, HW⟩ : ∃ W, Aside0 (W4.alloc (.cells #[.int .i64 lo, .int .i64 hi] 46) = W) := ⟨_, ⟨rfl⟩⟩
  have Nbr : Aside0 (w.heap.size ≠ W4.heap.size) := ⟨Nat.ne_of_lt (blk_lt b.out)⟩
  have Nrb : Aside0 (W4.heap.size ≠ w.heap.size) := ⟨Nat.ne_of_gt (blk_lt b.out)⟩
  have r : Aside0 (W5.heap[W4.heap.size]? = some (.cells #[.int .i64 lo, .int .i64 hi] 46)) := ⟨by rw [← HW.out]; exact heap_alloc_new W4 _⟩
  have HB : Aside0 (Below W4.heap.size W4 W5) := ⟨by rw [← HW.out]; exact (Below.refl _ _).alloc (Nat.le_refl _) _⟩
  replace HT := Aside0.mk (HT.out.trans (HB.out.mono HT.out.size))
  replace m1 := Aside0.mk (Kd.C_below m1.out HB.out)
  replace m2 := Aside0.mk (Kd.C_below m2.out HB.out)
  replace b := Aside0.mk (blk_below HB.out b.out)
  replace Mh := Aside0.mk (Kd.C_below Mh.out HB.out)
  replace Mc := Aside0.mk (Kd.C_below Mc.out HB.out)
  clear HB
  rw [HW.out]
  clear HW
  clear Mh Mc
  have rb0 : W5.cell? ⟨w.heap.size, 0, none⟩ = some (.int .i64 ex) := (blk_cell b.out 0).trans rfl
  have fb0 := blk_frozen b.out 0
  have rb1 : W5.cell? ⟨w.heap.size, 1, none⟩ = some (.slice A1 hs.length c1) := (blk_cell b.out 1).trans rfl
  have fb1 := blk_frozen b.out 1
  have rb2 : W5.cell? ⟨w.heap.size, 2, none⟩ = some (.slice A2 cs.length c2) := (blk_cell b.out 2).trans rfl
  have fb2 := blk_frozen b.out 2
  have rr0 : W5.cell? ⟨W4.heap.size, 0, none⟩ = some (.int .i64 lo) := (blk_cell r.out 0).trans rfl
  have fr0 := blk_frozen r.out 0
  have rr1 : W5.cell? ⟨W4.heap.size, 1, none⟩ = some (.int .i64 hi) := (blk_cell r.out 1).trans rfl
  have fr1 := blk_frozen r.out 1
  have rNbr := Nbr.out
  have rNrb := Nrb.out
  go_wp2_with fail
  clear rb0 fb0 rb1 fb1 rb2 fb2 rr0 fr0 rr1 fr1 rNbr rNrb
  refine (contangolaw11_Market.calls 3000 ex A1 c1 hs A2 c2 cs ex H C W5 m1.out h1.out m2.out h2.out em.out).mono ?_
  rintro e W6 ⟨vh, vc, rfl, hrh, hrc, hb⟩
  have HB : Aside0 (Below W5.heap.size W5 W6) := ⟨hb⟩
  replace HT := Aside0.mk (HT.out.trans (HB.out.mono HT.out.size))
  replace m1 := Aside0.mk (Kd.C_below m1.out HB.out)
  replace m2 := Aside0.mk (Kd.C_below m2.out HB.out)
  replace b := Aside0.mk (blk_below HB.out b.out)
  replace r := Aside0.mk (blk_below HB.out r.out)
  clear HB
  obtain ⟨Ah, ch, rfl, hc, hC⟩ := Kd.R_reads hrh
  have Mh := Aside0.mk hC
  have Lh := Aside0.mk hc
  clear hc hC hrh
  obtain ⟨Ac, cc, rfl, hc, hC⟩ := Kd.R_reads hrc
  have Mc := Aside0.mk hC
  have Lc := Aside0.mk hc
  clear hc hC hrc
  clear hb
  have rb0 : W6.cell? ⟨w.heap.size, 0, none⟩ = some (.int .i64 ex) := (blk_cell b.out 0).trans rfl
  have fb0 := blk_frozen b.out 0
  have rb1 : W6.cell? ⟨w.heap.size, 1, none⟩ = some (.slice A1 hs.length c1) := (blk_cell b.out 1).trans rfl
  have fb1 := blk_frozen b.out 1
  have rb2 : W6.cell? ⟨w.heap.size, 2, none⟩ = some (.slice A2 cs.length c2) := (blk_cell b.out 2).trans rfl
  have fb2 := blk_frozen b.out 2
  have rr0 : W6.cell? ⟨W4.heap.size, 0, none⟩ = some (.int .i64 lo) := (blk_cell r.out 0).trans rfl
  have fr0 := blk_frozen r.out 0
  have rr1 : W6.cell? ⟨W4.heap.size, 1, none⟩ = some (.int .i64 hi) := (blk_cell r.out 1).trans rfl
  have fr1 := blk_frozen r.out 1
  have rNbr := Nbr.out
  have rNrb := Nrb.out
  go_wp2_with fail
  clear rb0 fb0 rb1 fb1 rb2 fb2 rr0 fr0 rr1 fr1 rNbr rNrb
  refine (corner_Show.calls ex Ah ch H Ac cc C true t 0 W6 Mh.out Lh.out Mc.out Lc.out eh.out).mono ?_
  rintro e W7 ⟨vn, rfl, hrn, hb⟩
  have HB : Aside0 (Below W6.heap.size W6 W7) := ⟨hb⟩
  replace HT := Aside0.mk (HT.out.trans (HB.out.mono HT.out.size))
  replace m1 := Aside0.mk (Kd.C_below m1.out HB.out)
  replace m2 := Aside0.mk (Kd.C_below m2.out HB.out)
  replace b := Aside0.mk (blk_below HB.out b.out)
  replace r := Aside0.mk (blk_below HB.out r.out)
  replace Mh := Aside0.mk (Kd.C_below Mh.out HB.out)
  replace Mc := Aside0.mk (Kd.C_below Mc.out HB.out)
  clear HB
  obtain ⟨An, cn, rfl, hc, hC⟩ := Kd.R_reads hrn
  have Mn := Aside0.mk hC
  have Ln := Aside0.mk hc
  clear hc hC hrn
  clear hb
  have rb0 : W7.cell? ⟨w.heap.size, 0, none⟩ = some (.int .i64 ex) := (blk_cell b.out 0).trans rfl
  have fb0 := blk_frozen b.out 0
  have rb1 : W7.cell? ⟨w.heap.size, 1, none⟩ = some (.slice A1 hs.length c1) := (blk_cell b.out 1).trans rfl
  have fb1 := blk_frozen b.out 1
  have rb2 : W7.cell? ⟨w.heap.size, 2, none⟩ = some (.slice A2 cs.length c2) := (blk_cell b.out 2).trans rfl
  have fb2 := blk_frozen b.out 2
  have rr0 : W7.cell? ⟨W4.heap.size, 0, none⟩ = some (.int .i64 lo) := (blk_cell r.out 0).trans rfl
  have fr0 := blk_frozen r.out 0
  have rr1 : W7.cell? ⟨W4.heap.size, 1, none⟩ = some (.int .i64 hi) := (blk_cell r.out 1).trans rfl
  have fr1 := blk_frozen r.out 1
  have rNbr := Nbr.out
  have rNrb := Nrb.out
  go_wp2_with fail
  clear rb0 fb0 rb1 fb1 rb2 fb2 rr0 fr0 rr1 fr1 rNbr rNrb
  clear Mh Mc
  refine (contangolaw11_Market.calls 3000 ex A1 c1 hs A2 c2 cs ex H C W7 m1.out h1.out m2.out h2.out em.out).mono ?_
  rintro e W8 ⟨vh, vc, rfl, hrh, hrc, hb⟩
  have HB : Aside0 (Below W7.heap.size W7 W8) := ⟨hb⟩
  replace HT := Aside0.mk (HT.out.trans (HB.out.mono HT.out.size))
  replace m1 := Aside0.mk (Kd.C_below m1.out HB.out)
  replace m2 := Aside0.mk (Kd.C_below m2.out HB.out)
  replace b := Aside0.mk (blk_below HB.out b.out)
  replace r := Aside0.mk (blk_below HB.out r.out)
  replace Mn := Aside0.mk (Kd.C_below Mn.out HB.out)
  clear HB
  obtain ⟨Ah, ch, rfl, hc, hC⟩ := Kd.R_reads hrh
  have Mh := Aside0.mk hC
  have Lh := Aside0.mk hc
  clear hc hC hrh
  obtain ⟨Ac, cc, rfl, hc, hC⟩ := Kd.R_reads hrc
  have Mc := Aside0.mk hC
  have Lc := Aside0.mk hc
  clear hc hC hrc
  clear hb
  have rb0 : W8.cell? ⟨w.heap.size, 0, none⟩ = some (.int .i64 ex) := (blk_cell b.out 0).trans rfl
  have fb0 := blk_frozen b.out 0
  have rb1 : W8.cell? ⟨w.heap.size, 1, none⟩ = some (.slice A1 hs.length c1) := (blk_cell b.out 1).trans rfl
  have fb1 := blk_frozen b.out 1
  have rb2 : W8.cell? ⟨w.heap.size, 2, none⟩ = some (.slice A2 cs.length c2) := (blk_cell b.out 2).trans rfl
  have fb2 := blk_frozen b.out 2
  have rr0 : W8.cell? ⟨W4.heap.size, 0, none⟩ = some (.int .i64 lo) := (blk_cell r.out 0).trans rfl
  have fr0 := blk_frozen r.out 0
  have rr1 : W8.cell? ⟨W4.heap.size, 1, none⟩ = some (.int .i64 hi) := (blk_cell r.out 1).trans rfl
  have fr1 := blk_frozen r.out 1
  have rNbr := Nbr.out
  have rNrb := Nrb.out
  go_wp2_with fail
  clear rb0 fb0 rb1 fb1 rb2 fb2 rr0 fr0 rr1 fr1 rNbr rNrb
  refine (corner_Cornered.calls ex Ah ch H Ac cc C (decide (lo > 0)) (decide (hi > 0)) 0 W8 Mh.out Lh.out Mc.out Lc.out ec.out).mono ?_
  rintro e W9 ⟨rfl, hb⟩
  have HB : Aside0 (Below W8.heap.size W8 W9) := ⟨hb⟩
  replace HT := Aside0.mk (HT.out.trans (HB.out.mono HT.out.size))
  replace m1 := Aside0.mk (Kd.C_below m1.out HB.out)
  replace m2 := Aside0.mk (Kd.C_below m2.out HB.out)
  replace b := Aside0.mk (blk_below HB.out b.out)
  replace r := Aside0.mk (blk_below HB.out r.out)
  replace Mn := Aside0.mk (Kd.C_below Mn.out HB.out)
  replace Mh := Aside0.mk (Kd.C_below Mh.out HB.out)
  replace Mc := Aside0.mk (Kd.C_below Mc.out HB.out)
  clear HB
  clear hb
  have rb0 : W9.cell? ⟨w.heap.size, 0, none⟩ = some (.int .i64 ex) := (blk_cell b.out 0).trans rfl
  have fb0 := blk_frozen b.out 0
  have rb1 : W9.cell? ⟨w.heap.size, 1, none⟩ = some (.slice A1 hs.length c1) := (blk_cell b.out 1).trans rfl
  have fb1 := blk_frozen b.out 1
  have rb2 : W9.cell? ⟨w.heap.size, 2, none⟩ = some (.slice A2 cs.length c2) := (blk_cell b.out 2).trans rfl
  have fb2 := blk_frozen b.out 2
  have rr0 : W9.cell? ⟨W4.heap.size, 0, none⟩ = some (.int .i64 lo) := (blk_cell r.out 0).trans rfl
  have fr0 := blk_frozen r.out 0
  have rr1 : W9.cell? ⟨W4.heap.size, 1, none⟩ = some (.int .i64 hi) := (blk_cell r.out 1).trans rfl
  have fr1 := blk_frozen r.out 1
  have rNbr := Nbr.out
  have rNrb := Nrb.out
  go_wp2_with fail
  clear rb0 fb0 rb1 fb1 rb2 fb2 rr0 fr0 rr1 fr1 rNbr rNrb
  clear Mh Mc
  refine (contangolaw11_fault.calls 3000 ex A1 c1 hs A2 c2 cs 0 W9 m1.out h1.out m2.out h2.out ef.out).mono ?_
  rintro e W10 ⟨rfl, hb⟩
  have HB : Aside0 (Below W9.heap.size W9 W10) := ⟨hb⟩
  replace HT := Aside0.mk (HT.out.trans (HB.out.mono HT.out.size))
  replace m1 := Aside0.mk (Kd.C_below m1.out HB.out)
  replace m2 := Aside0.mk (Kd.C_below m2.out HB.out)
  replace b := Aside0.mk (blk_below HB.out b.out)
  replace r := Aside0.mk (blk_below HB.out r.out)
  replace Mn := Aside0.mk (Kd.C_below Mn.out HB.out)
  clear HB
  clear hb
  have rb0 : W10.cell? ⟨w.heap.size, 0, none⟩ = some (.int .i64 ex) := (blk_cell b.out 0).trans rfl
  have fb0 := blk_frozen b.out 0
  have rb1 : W10.cell? ⟨w.heap.size, 1, none⟩ = some (.slice A1 hs.length c1) := (blk_cell b.out 1).trans rfl
  have fb1 := blk_frozen b.out 1
  have rb2 : W10.cell? ⟨w.heap.size, 2, none⟩ = some (.slice A2 cs.length c2) := (blk_cell b.out 2).trans rfl
  have fb2 := blk_frozen b.out 2
  have rr0 : W10.cell? ⟨W4.heap.size, 0, none⟩ = some (.int .i64 lo) := (blk_cell r.out 0).trans rfl
  have fr0 := blk_frozen r.out 0
  have rr1 : W10.cell? ⟨W4.heap.size, 1, none⟩ = some (.int .i64 hi) := (blk_cell r.out 1).trans rfl
  have fr1 := blk_frozen r.out 1
  have rNbr := Nbr.out
  have rNrb := Nrb.out
  have ab0 : ∀ o, (W10.alloc o).cell? ⟨w.heap.size, 0, none⟩ = some (.int .i64 ex) := fun o => (blk_cell (blk_old b.out o) 0).trans rfl
  have ab1 : ∀ o, (W10.alloc o).cell? ⟨w.heap.size, 1, none⟩ = some (.slice A1 hs.length c1) := fun o => (blk_cell (blk_old b.out o) 1).trans rfl
  have ab2 : ∀ o, (W10.alloc o).cell? ⟨w.heap.size, 2, none⟩ = some (.slice A2 cs.length c2) := fun o => (blk_cell (blk_old b.out o) 2).trans rfl
  have ar0 : ∀ o, (W10.alloc o).cell? ⟨W4.heap.size, 0, none⟩ = some (.int .i64 lo) := fun o => (blk_cell (blk_old r.out o) 0).trans rfl
  have ar1 : ∀ o, (W10.alloc o).cell? ⟨W4.heap.size, 1, none⟩ = some (.int .i64 hi) := fun o => (blk_cell (blk_old r.out o) 1).trans rfl
  go_wp2_with fail
  clear rb0 fb0 rb1 fb1 rb2 fb2 rr0 fr0 rr1 fr1 rNbr rNrb ab0 ab1 ab2 ar0 ar1
  obtain ⟨W11, HW⟩ : ∃ W, Aside0 (W10.alloc (.cells #[.int .i64 0, .int .i64 0] 53) = W) := ⟨_, ⟨rfl⟩⟩
  have Nbd : Aside0 (w.heap.size ≠ W10.heap.size) := ⟨Nat.ne_of_lt (blk_lt b.out)⟩
  have Ndb : Aside0 (W10.heap.size ≠ w.heap.size) := ⟨Nat.ne_of_gt (blk_lt b.out)⟩
  have Nrd : Aside0 (W4.heap.size ≠ W10.heap.size) := ⟨Nat.ne_of_lt (blk_lt r.out)⟩
  have Ndr : Aside0 (W10.heap.size ≠ W4.heap.size) := ⟨Nat.ne_of_gt (blk_lt r.out)⟩
  have HTd : Aside0 (Below W10.heap.size W10 W10) := ⟨Below.refl _ _⟩
  have m1_d := m1
  have m2_d := m2
  have b_d := b
  have r_d := r
  have Mn_d := Mn
  have HLd : Aside0 (Below w.heap.size w W10) := HT
  have d : Aside0 (W11.heap[W10.heap.size]? = some (.cells #[.int .i64 0, .int .i64 0] 53)) := ⟨by rw [← HW.out]; exact heap_alloc_new W10 _⟩
  have HB : Aside0 (Below W10.heap.size W10 W11) := ⟨by rw [← HW.out]; exact (Below.refl _ _).alloc (Nat.le_refl _) _⟩
  replace HT := Aside0.mk (HT.out.trans (HB.out.mono HT.out.size))
  replace HTd := Aside0.mk (HTd.out.trans (HB.out.mono HTd.out.size))
  replace m1 := Aside0.mk (Kd.C_below m1.out HB.out)
  replace m2 := Aside0.mk (Kd.C_below m2.out HB.out)
  replace b := Aside0.mk (blk_below HB.out b.out)
  replace r := Aside0.mk (blk_below HB.out r.out)
  replace Mn := Aside0.mk (Kd.C_below Mn.out HB.out)
  clear HB
  rw [HW.out]
  clear HW
  have rb0 : W11.cell? ⟨w.heap.size, 0, none⟩ = some (.int .i64 ex) := (blk_cell b.out 0).trans rfl
  have fb0 := blk_frozen b.out 0
  have rb1 : W11.cell? ⟨w.heap.size, 1, none⟩ = some (.slice A1 hs.length c1) := (blk_cell b.out 1).trans rfl
  have fb1 := blk_frozen b.out 1
  have rb2 : W11.cell? ⟨w.heap.size, 2, none⟩ = some (.slice A2 cs.length c2) := (blk_cell b.out 2).trans rfl
  have fb2 := blk_frozen b.out 2
  have rr0 : W11.cell? ⟨W4.heap.size, 0, none⟩ = some (.int .i64 lo) := (blk_cell r.out 0).trans rfl
  have fr0 := blk_frozen r.out 0
  have rr1 : W11.cell? ⟨W4.heap.size, 1, none⟩ = some (.int .i64 hi) := (blk_cell r.out 1).trans rfl
  have fr1 := blk_frozen r.out 1
  have rd0 : W11.cell? ⟨W10.heap.size, 0, none⟩ = some (.int .i64 0) := (blk_cell d.out 0).trans rfl
  have fd0 := blk_frozen d.out 0
  have rd1 : W11.cell? ⟨W10.heap.size, 1, none⟩ = some (.int .i64 0) := (blk_cell d.out 1).trans rfl
  have fd1 := blk_frozen d.out 1
  have rNbr := Nbr.out
  have rNrb := Nrb.out
  have rNbd := Nbd.out
  have rNdb := Ndb.out
  have rNrd := Nrd.out
  have rNdr := Ndr.out
  go_wp2_with fail
  clear rb0 fb0 rb1 fb1 rb2 fb2 rr0 fr0 rr1 fr1 rd0 fd0 rd1 fd1 rNbr rNrb rNbd rNdb rNrd rNdr
  refine (contangoref11_Bounds.calls 1000000 ex A1 c1 hs A2 c2 cs lo hi true W11 m1.out h1.out m2.out h2.out eb.out).mono ?_
  rintro e W12 ⟨rfl, hb⟩
  have HB : Aside0 (Below W11.heap.size W11 W12) := ⟨hb⟩
  replace HT := Aside0.mk (HT.out.trans (HB.out.mono HT.out.size))
  replace HTd := Aside0.mk (HTd.out.trans (HB.out.mono HTd.out.size))
  replace m1 := Aside0.mk (Kd.C_below m1.out HB.out)
  replace m2 := Aside0.mk (Kd.C_below m2.out HB.out)
  replace b := Aside0.mk (blk_below HB.out b.out)
  replace r := Aside0.mk (blk_below HB.out r.out)
  replace Mn := Aside0.mk (Kd.C_below Mn.out HB.out)
  replace d := Aside0.mk (blk_below HB.out d.out)
  clear HB
  clear hb
  have rb0 : W12.cell? ⟨w.heap.size, 0, none⟩ = some (.int .i64 ex) := (blk_cell b.out 0).trans rfl
  have fb0 := blk_frozen b.out 0
  have rb1 : W12.cell? ⟨w.heap.size, 1, none⟩ = some (.slice A1 hs.length c1) := (blk_cell b.out 1).trans rfl
  have fb1 := blk_frozen b.out 1
  have rb2 : W12.cell? ⟨w.heap.size, 2, none⟩ = some (.slice A2 cs.length c2) := (blk_cell b.out 2).trans rfl
  have fb2 := blk_frozen b.out 2
  have rr0 : W12.cell? ⟨W4.heap.size, 0, none⟩ = some (.int .i64 lo) := (blk_cell r.out 0).trans rfl
  have fr0 := blk_frozen r.out 0
  have rr1 : W12.cell? ⟨W4.heap.size, 1, none⟩ = some (.int .i64 hi) := (blk_cell r.out 1).trans rfl
  have fr1 := blk_frozen r.out 1
  have rd0 : W12.cell? ⟨W10.heap.size, 0, none⟩ = some (.int .i64 0) := (blk_cell d.out 0).trans rfl
  have fd0 := blk_frozen d.out 0
  have rd1 : W12.cell? ⟨W10.heap.size, 1, none⟩ = some (.int .i64 0) := (blk_cell d.out 1).trans rfl
  have fd1 := blk_frozen d.out 1
  have rNbr := Nbr.out
  have rNrb := Nrb.out
  have rNbd := Nbd.out
  have rNdb := Ndb.out
  have rNrd := Nrd.out
  have rNdr := Ndr.out
  go_wp2_with fail
  clear rb0 fb0 rb1 fb1 rb2 fb2 rr0 fr0 rr1 fr1 rd0 fd0 rd1 fd1 rNbr rNrb rNbd rNdb rNrd rNdr
  obtain ⟨W13, HW⟩ : ∃ W, Aside0 (((W12.setCell ⟨W10.heap.size, 0, none⟩ (.int .i64 lo)).setCell ⟨W10.heap.size, 1, none⟩ (.int .i64 hi)) = W) := ⟨_, ⟨rfl⟩⟩
  replace HT : Aside0 (Below w.heap.size w W13) := ⟨by rw [← HW.out]; exact (below_set (below_set HT.out HLd.out.size) HLd.out.size)⟩
  replace HTd : Aside0 (Below W10.heap.size W10 W13) := ⟨by rw [← HW.out]; exact (below_set (below_set HTd.out (Nat.le_refl _)) (Nat.le_refl _))⟩
  replace d : Aside0 (W13.heap[W10.heap.size]? = some (.cells #[.int .i64 lo, .int .i64 hi] 53)) := ⟨by rw [← HW.out]; exact (blk_put (blk_put d.out 0 _ rfl) 1 _ rfl)⟩
  replace m1 := Aside0.mk (Kd.C_below m1_d.out HTd.out)
  replace m2 := Aside0.mk (Kd.C_below m2_d.out HTd.out)
  replace b := Aside0.mk (blk_below HTd.out b_d.out)
  replace r := Aside0.mk (blk_below HTd.out r_d.out)
  replace Mn := Aside0.mk (Kd.C_below Mn_d.out HTd.out)
  rw [HW.out]
  clear HW
  have rb0 : W13.cell? ⟨w.heap.size, 0, none⟩ = some (.int .i64 ex) := (blk_cell b.out 0).trans rfl
  have fb0 := blk_frozen b.out 0
  have rb1 : W13.cell? ⟨w.heap.size, 1, none⟩ = some (.slice A1 hs.length c1) := (blk_cell b.out 1).trans rfl
  have fb1 := blk_frozen b.out 1
  have rb2 : W13.cell? ⟨w.heap.size, 2, none⟩ = some (.slice A2 cs.length c2) := (blk_cell b.out 2).trans rfl
  have fb2 := blk_frozen b.out 2
  have rr0 : W13.cell? ⟨W4.heap.size, 0, none⟩ = some (.int .i64 lo) := (blk_cell r.out 0).trans rfl
  have fr0 := blk_frozen r.out 0
  have rr1 : W13.cell? ⟨W4.heap.size, 1, none⟩ = some (.int .i64 hi) := (blk_cell r.out 1).trans rfl
  have fr1 := blk_frozen r.out 1
  have rd0 : W13.cell? ⟨W10.heap.size, 0, none⟩ = some (.int .i64 lo) := (blk_cell d.out 0).trans rfl
  have fd0 := blk_frozen d.out 0
  have rd1 : W13.cell? ⟨W10.heap.size, 1, none⟩ = some (.int .i64 hi) := (blk_cell d.out 1).trans rfl
  have fd1 := blk_frozen d.out 1
  have rNbr := Nbr.out
  have rNrb := Nrb.out
  have rNbd := Nbd.out
  have rNdb := Ndb.out
  have rNrd := Nrd.out
  have rNdr := Ndr.out
  go_wp2_with fail
  clear rb0 fb0 rb1 fb1 rb2 fb2 rr0 fr0 rr1 fr1 rd0 fd0 rd1 fd1 rNbr rNrb rNbd rNdb rNrd rNdr
  refine (contangoref11_IsTruth.calls 3000 ex A1 c1 hs A2 c2 cs An cn t true W13 m1.out h1.out m2.out h2.out Mn.out Ln.out ei.out).mono ?_
  rintro e W14 ⟨rfl, hb⟩
  have HB : Aside0 (Below W13.heap.size W13 W14) := ⟨hb⟩
  replace HT := Aside0.mk (HT.out.trans (HB.out.mono HT.out.size))
  replace HTd := Aside0.mk (HTd.out.trans (HB.out.mono HTd.out.size))
  replace m1 := Aside0.mk (Kd.C_below m1.out HB.out)
  replace m2 := Aside0.mk (Kd.C_below m2.out HB.out)
  replace b := Aside0.mk (blk_below HB.out b.out)
  replace r := Aside0.mk (blk_below HB.out r.out)
  replace Mn := Aside0.mk (Kd.C_below Mn.out HB.out)
  replace d := Aside0.mk (blk_below HB.out d.out)
  clear HB
  clear hb
  have rb0 : W14.cell? ⟨w.heap.size, 0, none⟩ = some (.int .i64 ex) := (blk_cell b.out 0).trans rfl
  have fb0 := blk_frozen b.out 0
  have rb1 : W14.cell? ⟨w.heap.size, 1, none⟩ = some (.slice A1 hs.length c1) := (blk_cell b.out 1).trans rfl
  have fb1 := blk_frozen b.out 1
  have rb2 : W14.cell? ⟨w.heap.size, 2, none⟩ = some (.slice A2 cs.length c2) := (blk_cell b.out 2).trans rfl
  have fb2 := blk_frozen b.out 2
  have rr0 : W14.cell? ⟨W4.heap.size, 0, none⟩ = some (.int .i64 lo) := (blk_cell r.out 0).trans rfl
  have fr0 := blk_frozen r.out 0
  have rr1 : W14.cell? ⟨W4.heap.size, 1, none⟩ = some (.int .i64 hi) := (blk_cell r.out 1).trans rfl
  have fr1 := blk_frozen r.out 1
  have rd0 : W14.cell? ⟨W10.heap.size, 0, none⟩ = some (.int .i64 lo) := (blk_cell d.out 0).trans rfl
  have fd0 := blk_frozen d.out 0
  have rd1 : W14.cell? ⟨W10.heap.size, 1, none⟩ = some (.int .i64 hi) := (blk_cell d.out 1).trans rfl
  have fd1 := blk_frozen d.out 1
  have rNbr := Nbr.out
  have rNrb := Nrb.out
  have rNbd := Nbd.out
  have rNdb := Ndb.out
  have rNrd := Nrd.out
  have rNdr := Ndr.out
  go_wp2_with fail
  clear rb0 fb0 rb1 fb1 rb2 fb2 rr0 fr0 rr1 fr1 rd0 fd0 rd1 fd1 rNbr rNrb rNbd rNdb rNrd rNdr
  refine (contangoref11_Short.calls 3000 ex A1 c1 hs A2 c2 cs An cn t hi W14 m1.out h1.out m2.out h2.out Mn.out Ln.out eo.out).mono ?_
  rintro e W15 ⟨rfl, hb⟩
  have HB : Aside0 (Below W14.heap.size W14 W15) := ⟨hb⟩
  replace HT := Aside0.mk (HT.out.trans (HB.out.mono HT.out.size))
  replace HTd := Aside0.mk (HTd.out.trans (HB.out.mono HTd.out.size))
  replace m1 := Aside0.mk (Kd.C_below m1.out HB.out)
  replace m2 := Aside0.mk (Kd.C_below m2.out HB.out)
  replace b := Aside0.mk (blk_below HB.out b.out)
  replace r := Aside0.mk (blk_below HB.out r.out)
  replace Mn := Aside0.mk (Kd.C_below Mn.out HB.out)
  replace d := Aside0.mk (blk_below HB.out d.out)
  clear HB
  clear hb
  have rb0 : W15.cell? ⟨w.heap.size, 0, none⟩ = some (.int .i64 ex) := (blk_cell b.out 0).trans rfl
  have fb0 := blk_frozen b.out 0
  have rb1 : W15.cell? ⟨w.heap.size, 1, none⟩ = some (.slice A1 hs.length c1) := (blk_cell b.out 1).trans rfl
  have fb1 := blk_frozen b.out 1
  have rb2 : W15.cell? ⟨w.heap.size, 2, none⟩ = some (.slice A2 cs.length c2) := (blk_cell b.out 2).trans rfl
  have fb2 := blk_frozen b.out 2
  have rr0 : W15.cell? ⟨W4.heap.size, 0, none⟩ = some (.int .i64 lo) := (blk_cell r.out 0).trans rfl
  have fr0 := blk_frozen r.out 0
  have rr1 : W15.cell? ⟨W4.heap.size, 1, none⟩ = some (.int .i64 hi) := (blk_cell r.out 1).trans rfl
  have fr1 := blk_frozen r.out 1
  have rd0 : W15.cell? ⟨W10.heap.size, 0, none⟩ = some (.int .i64 lo) := (blk_cell d.out 0).trans rfl
  have fd0 := blk_frozen d.out 0
  have rd1 : W15.cell? ⟨W10.heap.size, 1, none⟩ = some (.int .i64 hi) := (blk_cell d.out 1).trans rfl
  have fd1 := blk_frozen d.out 1
  have rNbr := Nbr.out
  have rNrb := Nrb.out
  have rNbd := Nbd.out
  have rNdb := Ndb.out
  have rNrd := Nrd.out
  have rNdr := Ndr.out
  go_wp2_with fail
  clear rb0 fb0 rb1 fb1 rb2 fb2 rr0 fr0 rr1 fr1 rd0 fd0 rd1 fd1 rNbr rNrb rNbd rNdb rNrd rNdr
  refine (contangolaw11_awake.calls true W15 rfl).mono ?_
  rintro e W16 ⟨rfl, hb⟩
  have HB : Aside0 (Below W15.heap.size W15 W16) := ⟨hb⟩
  replace HT := Aside0.mk (HT.out.trans (HB.out.mono HT.out.size))
  replace HTd := Aside0.mk (HTd.out.trans (HB.out.mono HTd.out.size))
  replace m1 := Aside0.mk (Kd.C_below m1.out HB.out)
  replace m2 := Aside0.mk (Kd.C_below m2.out HB.out)
  replace b := Aside0.mk (blk_below HB.out b.out)
  replace r := Aside0.mk (blk_below HB.out r.out)
  replace Mn := Aside0.mk (Kd.C_below Mn.out HB.out)
  replace d := Aside0.mk (blk_below HB.out d.out)
  clear HB
  clear hb
  have rb0 : W16.cell? ⟨w.heap.size, 0, none⟩ = some (.int .i64 ex) := (blk_cell b.out 0).trans rfl
  have fb0 := blk_frozen b.out 0
  have rb1 : W16.cell? ⟨w.heap.size, 1, none⟩ = some (.slice A1 hs.length c1) := (blk_cell b.out 1).trans rfl
  have fb1 := blk_frozen b.out 1
  have rb2 : W16.cell? ⟨w.heap.size, 2, none⟩ = some (.slice A2 cs.length c2) := (blk_cell b.out 2).trans rfl
  have fb2 := blk_frozen b.out 2
  have rr0 : W16.cell? ⟨W4.heap.size, 0, none⟩ = some (.int .i64 lo) := (blk_cell r.out 0).trans rfl
  have fr0 := blk_frozen r.out 0
  have rr1 : W16.cell? ⟨W4.heap.size, 1, none⟩ = some (.int .i64 hi) := (blk_cell r.out 1).trans rfl
  have fr1 := blk_frozen r.out 1
  have rd0 : W16.cell? ⟨W10.heap.size, 0, none⟩ = some (.int .i64 lo) := (blk_cell d.out 0).trans rfl
  have fd0 := blk_frozen d.out 0
  have rd1 : W16.cell? ⟨W10.heap.size, 1, none⟩ = some (.int .i64 hi) := (blk_cell d.out 1).trans rfl
  have fd1 := blk_frozen d.out 1
  have rNbr := Nbr.out
  have rNrb := Nrb.out
  have rNbd := Nbd.out
  have rNdb := Ndb.out
  have rNrd := Nrd.out
  have rNdr := Ndr.out
  go_wp2_with fail
  clear rb0 fb0 rb1 fb1 rb2 fb2 rr0 fr0 rr1 fr1 rd0 fd0 rd1 fd1 rNbr rNrb rNbd rNdb rNrd rNdr
  go_ret
  exact ⟨rfl, HT.out⟩
theorem law4 (ex : Int) (A1 : Option Addr) (c1 : Nat) (hs : List S88) (A2 : Option Addr) (c2 : Nat) (cs : List S101) (up : Bool) (w : World) (m1 : Kd.C k88 w A1 hs.length hs) (h1 : hs.length ≤ c1) (m2 : Kd.C k101 w A2 cs.length cs) (h2 : cs.length ≤ c2) :
    Calls Try.prog 4 #[.agg #[.int .i64 ex, .slice A1 hs.length c1, .slice A2 cs.length c2], .bool up] w fun e w' => e = .returned (.bool true) ∧ Below w.heap.size w w' := by
  by_cases hT : hs.length ≤ 9 ∧ cs.length ≤ 11
  · obtain ⟨T1, T2⟩ := hT
    have em := market_f 3000 ex hs cs (by omega) (by omega) (by omega)
    have ef := lfault_f 3000 ex hs cs (by omega) (by omega) (by omega)
    have efew := few_yes 3000 ex hs cs 3000 (by omega) T1 T2
    by_cases h0 : ck ex (hs.map cvH) (cs.map cvC) = 0
    · rw [if_pos h0] at efew
      rw [h0] at ef
      by_cases hm : (mny 1 (hs.dropLast.map cvH) : Int) ≤ 3000
      · rw [decide_eq_true hm] at efew
        have eb := bounds_f ex hs cs 1000000 h0 (by omega) (by omega)
        cases hs3 : (shortR ex (hs.map cvH) (cs.map cvC)).2.2 with
        | false =>
          have ea := asked_no _ _ _ h0 hs3
          have e0 : shortR ex (hs.map cvH) (cs.map cvC) = (0, 0, false) := by
            unfold shortR at hs3 ⊢
            split at hs3
            · rename_i e; rw [if_pos e]
            · cases hs3
          rw [e0] at eb
          exact law4_no ex A1 c1 hs A2 c2 cs _ _ up w m1 h1 m2 h2 efew em (short_of ea) (show_bad ea (by omega) up) (cornered_of ea) ef eb
        | true =>
          have ea := asked_yes _ _ _ h0 hs3
          obtain ⟨n1, n2, n3⟩ := shortR_ok hs3
          obtain ⟨z1, z2, z3, z4, z5, z6, z7⟩ := ck_zero h0
          have hok := ck_okCs h0
          have e0 : shortR ex (hs.map cvH) (cs.map cvC) = ((shortR ex (hs.map cvH) (cs.map cvC)).1, (shortR ex (hs.map cvH) (cs.map cvC)).2.1, true) := by rw [← hs3]
          rw [e0] at eb
          have ne : ∀ b, lst b (cs.map cvC) (hs.map cvH) 0 ex ≠ nev := by
            intro b
            obtain ⟨t, t1, t2, _⟩ := lst_att false _ _ _ _ n1
            exact (lst_le b _ hok _ _ _ t (by omega) z6 t1 t2).1
          have tr : ∀ b, isT ex (hs.map cvH) (trL b (cs.map cvC) (hs.map cvH) 0 ex) = true ∧ lkS b (cs.map cvC) (hs.map cvH) 0 (trL b (cs.map cvC) (hs.map cvH) 0 ex) = lst b (cs.map cvC) (hs.map cvH) 0 ex := by
            intro b
            obtain ⟨t1, t2, t3⟩ := trL_ok b _ _ _ _ (ne b)
            exact ⟨by unfold isT; rw [t1, t2]; simp, t3⟩
          have ei : ∀ b, contangoref11_IsTruth.f 3000 ex hs cs (trL b (cs.map cvC) (hs.map cvH) 0 ex) = some true := fun b => by
            rw [istruth_f 3000 ex hs cs _ (by omega) z6 (by omega), (tr b).1]
          have eo : ∀ b, contangoref11_Short.f 3000 ex hs cs (trL b (cs.map cvC) (hs.map cvH) 0 ex) = some (lkS false (cs.map cvC) (hs.map cvH) 0 (trL b (cs.map cvC) (hs.map cvH) 0 ex)) := fun b => short_f 3000 ex hs cs _ h0 (tr b).1 (by omega)
          cases up with
          | false =>
            have eo1 := eo false
            rw [(tr false).2, ← n2] at eo1
            exact law4_yes_lo ex A1 c1 hs A2 c2 cs _ _ _ _ _ w m1 h1 m2 h2 efew em (short_of ea) (show_ok ea false) (cornered_of ea) ef eb (ei false) eo1
          | true =>
            have eo1 := eo true
            have k1 := (tr true).2
            rw [lkS_neg] at k1
            rw [show lkS false (cs.map cvC) (hs.map cvH) 0 (trL true (cs.map cvC) (hs.map cvH) 0 ex) = (shortR ex (hs.map cvH) (cs.map cvC)).2.1 from by omega] at eo1
            exact law4_yes_hi ex A1 c1 hs A2 c2 cs _ _ _ _ _ w m1 h1 m2 h2 efew em (short_of ea) (show_ok ea true) (cornered_of ea) ef eb (ei true) eo1
      · rw [decide_eq_false hm] at efew
        exact law4_thin ex A1 c1 hs A2 c2 cs up w m1 h1 m2 h2 efew
    · rw [if_neg h0] at efew
      have ea := asked_bad _ _ _ h0
      exact law4_bad ex A1 c1 hs A2 c2 cs _ _ _ h0 up w m1 h1 m2 h2 efew em (short_of ea) (show_bad ea h0 up) (cornered_of ea) ef
  · exact law4_thin ex A1 c1 hs A2 c2 cs up w m1 h1 m2 h2 (few_no 3000 ex hs cs 3000 (by omega) hT)
end Go.Proofs.Ytgjifkegfbpjkaa.Q
end
