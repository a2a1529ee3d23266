/- The law CornerEnds walked. -/
import Derived.Test.YtgjifkegfbpjkaaXCkPos
import Derived.Test.YtgjifkegfbpjkaaXCkThin
import Derived.Test.YtgjifkegfbpjkaaXCkAwake
import Derived.Test.YtgjifkegfbpjkaaXQf34
import Derived.Test.YtgjifkegfbpjkaaXQf45
import Derived.Lib.QuietBelow
section
namespace Go.Proofs.Ytgjifkegfbpjkaa.Q
set_option linter.unusedVariables false
set_option linter.unusedSimpArgs false
open Go.RowKit Go.Maps Go.Proofs.YtgjifkegfbpjkaaW.PrintWords Go.Proofs.YtgjifkegfbpjkaaW.PrintLast Go.Proofs.YtgjifkegfbpjkaaW.PrintMore
structure GoodT (W : World) (A : Option Addr) (c : Nat) (l : List Int) (ex : Int) (hs : List S88) (cs : List S101) (r : Int) : Prop where
  hC : Kd.C (Kd.int .i64) W A l.length l
  le : l.length ≤ c
  it : contangoref11_IsTruth.f 3000 ex hs cs l = some true
  sh : contangoref11_Short.f 3000 ex hs cs l = some r
theorem quiet_of (Q : Nat) (args : Array Value) (v : Value) (W0 : World) (h : ∀ W, Below W0.heap.size W0 W → Calls Try.prog Q args W fun e w' => e = .returned v ∧ Below W.heap.size W w') (d : Nat) (os : Array Obj) :
    Calls Try.prog Q args (Go.Sort.grow (redrawn W0 d) os) fun e w' => e = .returned v ∧ ∃ p : Regrown, w' = Go.Sort.grow (redrawn W0 p.d) p.os :=
  Calls.regrown_of (h _ (below_regrown W0 d os))
theorem ready_f (k : Nat) (ex : Int) (hs : List S88) (cs : List S101) (hk : 100 < k) : contangolaw11_ready.f k ex hs cs = some (decide (hs.length ≤ 9 ∧ cs.length ≤ 11) && decide (ck ex (hs.map cvH) (cs.map cvC) = 0)) := by
  unfold contangolaw11_ready.f
  by_cases h : hs.length ≤ 9 ∧ cs.length ≤ 11
  · rw [thin_yes ex hs cs [] h.1 h.2 (by simp), Option.bind_some, if_pos rfl, lfault_f k ex hs cs (by omega) (by omega) (by omega), Option.bind_some, decide_eq_true h, Bool.true_and, Bool.beq_eq_decide_eq]
  · rw [thin_no ex hs cs [] (by simpa using h), Option.bind_some, if_neg (by simp), decide_eq_false h, Bool.false_and]
set_option maxHeartbeats 4000000 in
set_option maxRecDepth 100000 in
theorem law9_thin (ex : Int) (A1 : Option Addr) (c1 : Nat) (hs : List S88) (A2 : Option Addr) (c2 : Nat) (cs : List S101) (w : World) (m1 : Kd.C k88 w A1 hs.length hs) (h1 : hs.length ≤ c1) (m2 : Kd.C k101 w A2 cs.length cs) (h2 : cs.length ≤ c2) (erd : contangolaw11_ready.f 3000 ex hs cs = some false) :
    Calls Try.prog 9 #[.agg #[.int .i64 ex, .slice A1 hs.length c1, .slice A2 cs.length c2]] w fun e w' => e = .returned (.bool true) ∧ Below w.heap.size w w' := by
  replace m1 := Aside0.mk m1
  replace h1 := Aside0.mk h1
  replace m2 := Aside0.mk m2
  replace h2 := Aside0.mk h2
  replace erd := Aside0.mk erd
  have HT : Aside0 (Below w.heap.size w w) := ⟨Below.refl _ _⟩
  go_enter Try.func9, Try.ntmps9
  go_wp2_with fail
  obtain ⟨W1, HW⟩ : ∃ W, Aside0 (w.alloc (.cells #[.int .i64 ex, .slice A1 hs.length c1, .slice A2 cs.length c2] 25) = W) := ⟨_, ⟨rfl⟩⟩
  have b0 : Aside0 (W1.cell? ⟨w.heap.size, 0, none⟩ = some (.int .i64 ex)) := ⟨by rw [← HW.out]; simp⟩
  have b1 : Aside0 (W1.cell? ⟨w.heap.size, 1, none⟩ = some (.slice A1 hs.length c1)) := ⟨by rw [← HW.out]; simp⟩
  have b2 : Aside0 (W1.cell? ⟨w.heap.size, 2, none⟩ = some (.slice A2 cs.length c2)) := ⟨by rw [← HW.out]; simp⟩
  have HB : Aside0 (Below w.heap.size w W1) := ⟨by rw [← HW.out]; exact (Below.refl _ _).alloc (Nat.le_refl _) _⟩
  replace HT := Aside0.mk (HT.out.trans (HB.out.mono HT.out.size))
  replace m1 := Aside0.mk (Kd.C_below m1.out HB.out)
  replace m2 := Aside0.mk (Kd.C_below m2.out HB.out)
  clear HB
  rw [HW.out]
  clear HW
  have rb0 := b0.out
  have rb1 := b1.out
  have rb2 := b2.out
  go_wp2_with fail
  clear rb0
  clear rb1
  clear rb2
  refine (contangolaw11_ready.calls 3000 ex A1 c1 hs A2 c2 cs false W1 m1.out h1.out m2.out h2.out erd.out).mono ?_
  rintro e W2 ⟨rfl, hb⟩
  have HB : Aside0 (Below W1.heap.size W1 W2) := ⟨hb⟩
  replace HT := Aside0.mk (HT.out.trans (HB.out.mono HT.out.size))
  replace m1 := Aside0.mk (Kd.C_below m1.out HB.out)
  replace m2 := Aside0.mk (Kd.C_below m2.out HB.out)
  replace b0 := Aside0.mk (pw_cell_below HB.out b0.out)
  replace b1 := Aside0.mk (pw_cell_below HB.out b1.out)
  replace b2 := Aside0.mk (pw_cell_below HB.out b2.out)
  clear HB
  clear hb
  have rb0 := b0.out
  have rb1 := b1.out
  have rb2 := b2.out
  go_wp2_with fail
  clear rb0
  clear rb1
  clear rb2
  refine (contangolaw11_awake.calls true W2 rfl).mono ?_
  rintro e W3 ⟨rfl, hb⟩
  have HB : Aside0 (Below W2.heap.size W2 W3) := ⟨hb⟩
  replace HT := Aside0.mk (HT.out.trans (HB.out.mono HT.out.size))
  replace m1 := Aside0.mk (Kd.C_below m1.out HB.out)
  replace m2 := Aside0.mk (Kd.C_below m2.out HB.out)
  replace b0 := Aside0.mk (pw_cell_below HB.out b0.out)
  replace b1 := Aside0.mk (pw_cell_below HB.out b1.out)
  replace b2 := Aside0.mk (pw_cell_below HB.out b2.out)
  clear HB
  clear hb
  have rb0 := b0.out
  have rb1 := b1.out
  have rb2 := b2.out
  go_wp2_with fail
  clear rb0
  clear rb1
  clear rb2
  go_ret
  exact ⟨rfl, HT.out⟩
set_option maxHeartbeats 4000000 in
set_option maxRecDepth 100000 in
theorem law9_no (ex : Int) (A1 : Option Addr) (c1 : Nat) (hs : List S88) (A2 : Option Addr) (c2 : Nat) (cs : List S101) (H : List S73) (C : List S75) (w : World) (m1 : Kd.C k88 w A1 hs.length hs) (h1 : hs.length ≤ c1) (m2 : Kd.C k101 w A2 cs.length cs) (h2 : cs.length ≤ c2) (erd : contangolaw11_ready.f 3000 ex hs cs = some true) (em : contangolaw11_Market.f 3000 ex hs cs = some (ex, H, C)) (es : corner_Shortage.f ex H C = some (0, 0, 9)) (eh : corner_Show.f ex H C false = some ([], 9)) (eg : corner_Show.f ex H C true = some ([], 9)) (ec : corner_Cornered.f ex H C = some (false, false, 9)) (ei : contangoref11_Has.f 3000 ex hs cs = some false) :
    Calls Try.prog 9 #[.agg #[.int .i64 ex, .slice A1 hs.length c1, .slice A2 cs.length c2]] w fun e w' => e = .returned (.bool true) ∧ Below w.heap.size w w' := by
  replace m1 := Aside0.mk m1
  replace h1 := Aside0.mk h1
  replace m2 := Aside0.mk m2
  replace h2 := Aside0.mk h2
  replace erd := Aside0.mk erd
  replace em := Aside0.mk em
  replace es := Aside0.mk es
  replace eh := Aside0.mk eh
  replace eg := Aside0.mk eg
  replace ec := Aside0.mk ec
  replace ei := Aside0.mk ei
  have HT : Aside0 (Below w.heap.size w w) := ⟨Below.refl _ _⟩
  go_enter Try.func9, Try.ntmps9
  go_wp2_with fail
  obtain ⟨W1, HW⟩ : ∃ W, Aside0 (w.alloc (.cells #[.int .i64 ex, .slice A1 hs.length c1, .slice A2 cs.length c2] 25) = W) := ⟨_, ⟨rfl⟩⟩
  have b : Aside0 (W1.heap[w.heap.size]? = some (.cells #[.int .i64 ex, .slice A1 hs.length c1, .slice A2 cs.length c2] 25)) := ⟨by rw [← HW.out]; exact heap_alloc_new w _⟩
  have HB : Aside0 (Below w.heap.size w W1) := ⟨by rw [← HW.out]; exact (Below.refl _ _).alloc (Nat.le_refl _) _⟩
  replace HT := Aside0.mk (HT.out.trans (HB.out.mono HT.out.size))
  replace m1 := Aside0.mk (Kd.C_below m1.out HB.out)
  replace m2 := Aside0.mk (Kd.C_below m2.out HB.out)
  clear HB
  rw [HW.out]
  clear HW
  have rb0 : W1.cell? ⟨w.heap.size, 0, none⟩ = some (.int .i64 ex) := (blk_cell b.out 0).trans rfl
  have fb0 := blk_frozen b.out 0
  have rb1 : W1.cell? ⟨w.heap.size, 1, none⟩ = some (.slice A1 hs.length c1) := (blk_cell b.out 1).trans rfl
  have fb1 := blk_frozen b.out 1
  have rb2 : W1.cell? ⟨w.heap.size, 2, none⟩ = some (.slice A2 cs.length c2) := (blk_cell b.out 2).trans rfl
  have fb2 := blk_frozen b.out 2
  go_wp2_with fail
  clear rb0 fb0 rb1 fb1 rb2 fb2
  refine (contangolaw11_ready.calls 3000 ex A1 c1 hs A2 c2 cs true W1 m1.out h1.out m2.out h2.out erd.out).mono ?_
  rintro e W2 ⟨rfl, hb⟩
  have HB : Aside0 (Below W1.heap.size W1 W2) := ⟨hb⟩
  replace HT := Aside0.mk (HT.out.trans (HB.out.mono HT.out.size))
  replace m1 := Aside0.mk (Kd.C_below m1.out HB.out)
  replace m2 := Aside0.mk (Kd.C_below m2.out HB.out)
  replace b := Aside0.mk (blk_below HB.out b.out)
  clear HB
  clear hb
  have rb0 : W2.cell? ⟨w.heap.size, 0, none⟩ = some (.int .i64 ex) := (blk_cell b.out 0).trans rfl
  have fb0 := blk_frozen b.out 0
  have rb1 : W2.cell? ⟨w.heap.size, 1, none⟩ = some (.slice A1 hs.length c1) := (blk_cell b.out 1).trans rfl
  have fb1 := blk_frozen b.out 1
  have rb2 : W2.cell? ⟨w.heap.size, 2, none⟩ = some (.slice A2 cs.length c2) := (blk_cell b.out 2).trans rfl
  have fb2 := blk_frozen b.out 2
  go_wp2_with fail
  clear rb0 fb0 rb1 fb1 rb2 fb2
  refine (contangolaw11_Market.calls 3000 ex A1 c1 hs A2 c2 cs ex H C W2 m1.out h1.out m2.out h2.out em.out).mono ?_
  rintro e W3 ⟨vh, vc, rfl, hrh, hrc, hb⟩
  have HB : Aside0 (Below W2.heap.size W2 W3) := ⟨hb⟩
  replace HT := Aside0.mk (HT.out.trans (HB.out.mono HT.out.size))
  replace m1 := Aside0.mk (Kd.C_below m1.out HB.out)
  replace m2 := Aside0.mk (Kd.C_below m2.out HB.out)
  replace b := Aside0.mk (blk_below HB.out b.out)
  clear HB
  obtain ⟨Ah, ch, rfl, hc, hC⟩ := Kd.R_reads hrh
  have Mh := Aside0.mk hC
  have Lh := Aside0.mk hc
  clear hc hC hrh
  obtain ⟨Ac, cc, rfl, hc, hC⟩ := Kd.R_reads hrc
  have Mc := Aside0.mk hC
  have Lc := Aside0.mk hc
  clear hc hC hrc
  clear hb
  have rb0 : W3.cell? ⟨w.heap.size, 0, none⟩ = some (.int .i64 ex) := (blk_cell b.out 0).trans rfl
  have fb0 := blk_frozen b.out 0
  have rb1 : W3.cell? ⟨w.heap.size, 1, none⟩ = some (.slice A1 hs.length c1) := (blk_cell b.out 1).trans rfl
  have fb1 := blk_frozen b.out 1
  have rb2 : W3.cell? ⟨w.heap.size, 2, none⟩ = some (.slice A2 cs.length c2) := (blk_cell b.out 2).trans rfl
  have fb2 := blk_frozen b.out 2
  go_wp2_with fail
  clear rb0 fb0 rb1 fb1 rb2 fb2
  refine (corner_Shortage.calls ex Ah ch H Ac cc C 0 0 9 W3 Mh.out Lh.out Mc.out Lc.out es.out).mono ?_
  rintro e W4 ⟨rfl, hb⟩
  have HB : Aside0 (Below W3.heap.size W3 W4) := ⟨hb⟩
  replace HT := Aside0.mk (HT.out.trans (HB.out.mono HT.out.size))
  replace m1 := Aside0.mk (Kd.C_below m1.out HB.out)
  replace m2 := Aside0.mk (Kd.C_below m2.out HB.out)
  replace b := Aside0.mk (blk_below HB.out b.out)
  replace Mh := Aside0.mk (Kd.C_below Mh.out HB.out)
  replace Mc := Aside0.mk (Kd.C_below Mc.out HB.out)
  clear HB
  clear hb
  have rb0 : W4.cell? ⟨w.heap.size, 0, none⟩ = some (.int .i64 ex) := (blk_cell b.out 0).trans rfl
  have fb0 := blk_frozen b.out 0
  have rb1 : W4.cell? ⟨w.heap.size, 1, none⟩ = some (.slice A1 hs.length c1) := (blk_cell b.out 1).trans rfl
  have fb1 := blk_frozen b.out 1
  have rb2 : W4.cell? ⟨w.heap.size, 2, none⟩ = some (.slice A2 cs.length c2) := (blk_cell b.out 2).trans rfl
  have fb2 := blk_frozen b.out 2
  have ab0 : ∀ o, (W4.alloc o).cell? ⟨w.heap.size, 0, none⟩ = some (.int .i64 ex) := fun o => (blk_cell (blk_old b.out o) 0).trans rfl
  have ab1 : ∀ o, (W4.alloc o).cell? ⟨w.heap.size, 1, none⟩ = some (.slice A1 hs.length c1) := fun o => (blk_cell (blk_old b.out o) 1).trans rfl
  have ab2 : ∀ o, (W4.alloc o).cell? ⟨w.heap.size, 2, none⟩ = some (.slice A2 cs.length c2) := fun o => (blk_cell (blk_old b.out o) 2).trans rfl
  go_wp2_with fail
  clear rb0 fb0 rb1 fb1 rb2 fb2 ab0 ab1 ab2
  obtain ⟨W5, HW⟩ : ∃ W, Aside0 (W4.alloc (.cells #[.int .i64 0, .int .i64 0] 46) = W) := ⟨_, ⟨rfl⟩⟩
  have Nbr : Aside0 (w.heap.size ≠ W4.heap.size) := ⟨Nat.ne_of_lt (blk_lt b.out)⟩
  have Nrb : Aside0 (W4.heap.size ≠ w.heap.size) := ⟨Nat.ne_of_gt (blk_lt b.out)⟩
  have r : Aside0 (W5.heap[W4.heap.size]? = some (.cells #[.int .i64 0, .int .i64 0] 46)) := ⟨by rw [← HW.out]; exact heap_alloc_new W4 _⟩
  have HB : Aside0 (Below W4.heap.size W4 W5) := ⟨by rw [← HW.out]; exact (Below.refl _ _).alloc (Nat.le_refl _) _⟩
  replace HT := Aside0.mk (HT.out.trans (HB.out.mono HT.out.size))
  replace m1 := Aside0.mk (Kd.C_below m1.out HB.out)
  replace m2 := Aside0.mk (Kd.C_below m2.out HB.out)
  replace b := Aside0.mk (blk_below HB.out b.out)
  replace Mh := Aside0.mk (Kd.C_below Mh.out HB.out)
  replace Mc := Aside0.mk (Kd.C_below Mc.out HB.out)
  clear HB
  rw [HW.out]
  clear HW
  clear Mh Mc
  have rb0 : W5.cell? ⟨w.heap.size, 0, none⟩ = some (.int .i64 ex) := (blk_cell b.out 0).trans rfl
  have fb0 := blk_frozen b.out 0
  have rb1 : W5.cell? ⟨w.heap.size, 1, none⟩ = some (.slice A1 hs.length c1) := (blk_cell b.out 1).trans rfl
  have fb1 := blk_frozen b.out 1
  have rb2 : W5.cell? ⟨w.heap.size, 2, none⟩ = some (.slice A2 cs.length c2) := (blk_cell b.out 2).trans rfl
  have fb2 := blk_frozen b.out 2
  have rr0 : W5.cell? ⟨W4.heap.size, 0, none⟩ = some (.int .i64 0) := (blk_cell r.out 0).trans rfl
  have fr0 := blk_frozen r.out 0
  have rr1 : W5.cell? ⟨W4.heap.size, 1, none⟩ = some (.int .i64 0) := (blk_cell r.out 1).trans rfl
  have fr1 := blk_frozen r.out 1
  have rNbr := Nbr.out
  have rNrb := Nrb.out
  go_wp2_with fail
  clear rb0 fb0 rb1 fb1 rb2 fb2 rr0 fr0 rr1 fr1 rNbr rNrb
  refine (contangolaw11_Market.calls 3000 ex A1 c1 hs A2 c2 cs ex H C W5 m1.out h1.out m2.out h2.out em.out).mono ?_
  rintro e W6 ⟨vh, vc, rfl, hrh, hrc, hb⟩
  have HB : Aside0 (Below W5.heap.size W5 W6) := ⟨hb⟩
  replace HT := Aside0.mk (HT.out.trans (HB.out.mono HT.out.size))
  replace m1 := Aside0.mk (Kd.C_below m1.out HB.out)
  replace m2 := Aside0.mk (Kd.C_below m2.out HB.out)
  replace b := Aside0.mk (blk_below HB.out b.out)
  replace r := Aside0.mk (blk_below HB.out r.out)
  clear HB
  obtain ⟨Ah, ch, rfl, hc, hC⟩ := Kd.R_reads hrh
  have Mh := Aside0.mk hC
  have Lh := Aside0.mk hc
  clear hc hC hrh
  obtain ⟨Ac, cc, rfl, hc, hC⟩ := Kd.R_reads hrc
  have Mc := Aside0.mk hC
  have Lc := Aside0.mk hc
  clear hc hC hrc
  clear hb
  have rb0 : W6.cell? ⟨w.heap.size, 0, none⟩ = some (.int .i64 ex) := (blk_cell b.out 0).trans rfl
  have fb0 := blk_frozen b.out 0
  have rb1 : W6.cell? ⟨w.heap.size, 1, none⟩ = some (.slice A1 hs.length c1) := (blk_cell b.out 1).trans rfl
  have fb1 := blk_frozen b.out 1
  have rb2 : W6.cell? ⟨w.heap.size, 2, none⟩ = some (.slice A2 cs.length c2) := (blk_cell b.out 2).trans rfl
  have fb2 := blk_frozen b.out 2
  have rr0 : W6.cell? ⟨W4.heap.size, 0, none⟩ = some (.int .i64 0) := (blk_cell r.out 0).trans rfl
  have fr0 := blk_frozen r.out 0
  have rr1 : W6.cell? ⟨W4.heap.size, 1, none⟩ = some (.int .i64 0) := (blk_cell r.out 1).trans rfl
  have fr1 := blk_frozen r.out 1
  have rNbr := Nbr.out
  have rNrb := Nrb.out
  go_wp2_with fail
  clear rb0 fb0 rb1 fb1 rb2 fb2 rr0 fr0 rr1 fr1 rNbr rNrb
  refine (corner_Show.calls ex Ah ch H Ac cc C false [] 9 W6 Mh.out Lh.out Mc.out Lc.out eh.out).mono ?_
  rintro e W7 ⟨vn, rfl, hrn, hb⟩
  have HB : Aside0 (Below W6.heap.size W6 W7) := ⟨hb⟩
  replace HT := Aside0.mk (HT.out.trans (HB.out.mono HT.out.size))
  replace m1 := Aside0.mk (Kd.C_below m1.out HB.out)
  replace m2 := Aside0.mk (Kd.C_below m2.out HB.out)
  replace b := Aside0.mk (blk_below HB.out b.out)
  replace r := Aside0.mk (blk_below HB.out r.out)
  replace Mh := Aside0.mk (Kd.C_below Mh.out HB.out)
  replace Mc := Aside0.mk (Kd.C_below Mc.out HB.out)
  clear HB
  obtain ⟨An, cn, rfl, hc, hC⟩ := Kd.R_reads hrn
  have Mn := Aside0.mk hC
  have Ln := Aside0.mk hc
  clear hc hC hrn
  clear hb
  have rb0 : W7.cell? ⟨w.heap.size, 0, none⟩ = some (.int .i64 ex) := (blk_cell b.out 0).trans rfl
  have fb0 := blk_frozen b.out 0
  have rb1 : W7.cell? ⟨w.heap.size, 1, none⟩ = some (.slice A1 hs.length c1) := (blk_cell b.out 1).trans rfl
  have fb1 := blk_frozen b.out 1
  have rb2 : W7.cell? ⟨w.heap.size, 2, none⟩ = some (.slice A2 cs.length c2) := (blk_cell b.out 2).trans rfl
  have fb2 := blk_frozen b.out 2
  have rr0 : W7.cell? ⟨W4.heap.size, 0, none⟩ = some (.int .i64 0) := (blk_cell r.out 0).trans rfl
  have fr0 := blk_frozen r.out 0
  have rr1 : W7.cell? ⟨W4.heap.size, 1, none⟩ = some (.int .i64 0) := (blk_cell r.out 1).trans rfl
  have fr1 := blk_frozen r.out 1
  have rNbr := Nbr.out
  have rNrb := Nrb.out
  go_wp2_with fail
  clear rb0 fb0 rb1 fb1 rb2 fb2 rr0 fr0 rr1 fr1 rNbr rNrb
  clear Mh Mc
  refine (contangolaw11_Market.calls 3000 ex A1 c1 hs A2 c2 cs ex H C W7 m1.out h1.out m2.out h2.out em.out).mono ?_
  rintro e W8 ⟨vh, vc, rfl, hrh, hrc, hb⟩
  have HB : Aside0 (Below W7.heap.size W7 W8) := ⟨hb⟩
  replace HT := Aside0.mk (HT.out.trans (HB.out.mono HT.out.size))
  replace m1 := Aside0.mk (Kd.C_below m1.out HB.out)
  replace m2 := Aside0.mk (Kd.C_below m2.out HB.out)
  replace b := Aside0.mk (blk_below HB.out b.out)
  replace r := Aside0.mk (blk_below HB.out r.out)
  replace Mn := Aside0.mk (Kd.C_below Mn.out HB.out)
  clear HB
  obtain ⟨Ah, ch, rfl, hc, hC⟩ := Kd.R_reads hrh
  have Mh := Aside0.mk hC
  have Lh := Aside0.mk hc
  clear hc hC hrh
  obtain ⟨Ac, cc, rfl, hc, hC⟩ := Kd.R_reads hrc
  have Mc := Aside0.mk hC
  have Lc := Aside0.mk hc
  clear hc hC hrc
  clear hb
  have rb0 : W8.cell? ⟨w.heap.size, 0, none⟩ = some (.int .i64 ex) := (blk_cell b.out 0).trans rfl
  have fb0 := blk_frozen b.out 0
  have rb1 : W8.cell? ⟨w.heap.size, 1, none⟩ = some (.slice A1 hs.length c1) := (blk_cell b.out 1).trans rfl
  have fb1 := blk_frozen b.out 1
  have rb2 : W8.cell? ⟨w.heap.size, 2, none⟩ = some (.slice A2 cs.length c2) := (blk_cell b.out 2).trans rfl
  have fb2 := blk_frozen b.out 2
  have rr0 : W8.cell? ⟨W4.heap.size, 0, none⟩ = some (.int .i64 0) := (blk_cell r.out 0).trans rfl
  have fr0 := blk_frozen r.out 0
  have rr1 : W8.cell? ⟨W4.heap.size, 1, none⟩ = some (.int .i64 0) := (blk_cell r.out 1).trans rfl
  have fr1 := blk_frozen r.out 1
  have rNbr := Nbr.out
  have rNrb := Nrb.out
  go_wp2_with fail
  clear rb0 fb0 rb1 fb1 rb2 fb2 rr0 fr0 rr1 fr1 rNbr rNrb
  refine (corner_Show.calls ex Ah ch H Ac cc C true [] 9 W8 Mh.out Lh.out Mc.out Lc.out eg.out).mono ?_
  rintro e W9 ⟨vq, rfl, hrq, hb⟩
  have HB : Aside0 (Below W8.heap.size W8 W9) := ⟨hb⟩
  replace HT := Aside0.mk (HT.out.trans (HB.out.mono HT.out.size))
  replace m1 := Aside0.mk (Kd.C_below m1.out HB.out)
  replace m2 := Aside0.mk (Kd.C_below m2.out HB.out)
  replace b := Aside0.mk (blk_below HB.out b.out)
  replace r := Aside0.mk (blk_below HB.out r.out)
  replace Mn := Aside0.mk (Kd.C_below Mn.out HB.out)
  replace Mh := Aside0.mk (Kd.C_below Mh.out HB.out)
  replace Mc := Aside0.mk (Kd.C_below Mc.out HB.out)
  clear HB
  obtain ⟨Aq, cq, rfl, hc, hC⟩ := Kd.R_reads hrq
  have Mq := Aside0.mk hC
  have Lq := Aside0.mk hc
  clear hc hC hrq
  clear hb
  have rb0 : W9.cell? ⟨w.heap.size, 0, none⟩ = some (.int .i64 ex) := (blk_cell b.out 0).trans rfl
  have fb0 := blk_frozen b.out 0
  have rb1 : W9.cell? ⟨w.heap.size, 1, none⟩ = some (.slice A1 hs.length c1) := (blk_cell b.out 1).trans rfl
  have fb1 := blk_frozen b.out 1
  have rb2 : W9.cell? ⟨w.heap.size, 2, none⟩ = some (.slice A2 cs.length c2) := (blk_cell b.out 2).trans rfl
  have fb2 := blk_frozen b.out 2
  have rr0 : W9.cell? ⟨W4.heap.size, 0, none⟩ = some (.int .i64 0) := (blk_cell r.out 0).trans rfl
  have fr0 := blk_frozen r.out 0
  have rr1 : W9.cell? ⟨W4.heap.size, 1, none⟩ = some (.int .i64 0) := (blk_cell r.out 1).trans rfl
  have fr1 := blk_frozen r.out 1
  have rNbr := Nbr.out
  have rNrb := Nrb.out
  go_wp2_with fail
  clear rb0 fb0 rb1 fb1 rb2 fb2 rr0 fr0 rr1 fr1 rNbr rNrb
  clear Mh Mc
  refine (contangolaw11_Market.calls 3000 ex A1 c1 hs A2 c2 cs ex H C W9 m1.out h1.out m2.out h2.out em.out).mono ?_
  rintro e W10 ⟨vh, vc, rfl, hrh, hrc, hb⟩
  have HB : Aside0 (Below W9.heap.size W9 W10) := ⟨hb⟩
  replace HT := Aside0.mk (HT.out.trans (HB.out.mono HT.out.size))
  replace m1 := Aside0.mk (Kd.C_below m1.out HB.out)
  replace m2 := Aside0.mk (Kd.C_below m2.out HB.out)
  replace b := Aside0.mk (blk_below HB.out b.out)
  replace r := Aside0.mk (blk_below HB.out r.out)
  replace Mn := Aside0.mk (Kd.C_below Mn.out HB.out)
  replace Mq := Aside0.mk (Kd.C_below Mq.out HB.out)
  clear HB
  obtain ⟨Ah, ch, rfl, hc, hC⟩ := Kd.R_reads hrh
  have Mh := Aside0.mk hC
  have Lh := Aside0.mk hc
  clear hc hC hrh
  obtain ⟨Ac, cc, rfl, hc, hC⟩ := Kd.R_reads hrc
  have Mc := Aside0.mk hC
  have Lc := Aside0.mk hc
  clear hc hC hrc
  clear hb
  have rb0 : W10.cell? ⟨w.heap.size, 0, none⟩ = some (.int .i64 ex) := (blk_cell b.out 0).trans rfl
  have fb0 := blk_frozen b.out 0
  have rb1 : W10.cell? ⟨w.heap.size, 1, none⟩ = some (.slice A1 hs.length c1) := (blk_cell b.out 1).trans rfl
  have fb1 := blk_frozen b.out 1
  have rb2 : W10.cell? ⟨w.heap.size, 2, none⟩ = some (.slice A2 cs.length c2) := (blk_cell b.out 2).trans rfl
  have fb2 := blk_frozen b.out 2
  have rr0 : W10.cell? ⟨W4.heap.size, 0, none⟩ = some (.int .i64 0) := (blk_cell r.out 0).trans rfl
  have fr0 := blk_frozen r.out 0
  have rr1 : W10.cell? ⟨W4.heap.size, 1, none⟩ = some (.int .i64 0) := (blk_cell r.out 1).trans rfl
  have fr1 := blk_frozen r.out 1
  have rNbr := Nbr.out
  have rNrb := Nrb.out
  go_wp2_with fail
  clear rb0 fb0 rb1 fb1 rb2 fb2 rr0 fr0 rr1 fr1 rNbr rNrb
  refine (corner_Cornered.calls ex Ah ch H Ac cc C false false 9 W10 Mh.out Lh.out Mc.out Lc.out ec.out).mono ?_
  rintro e W11 ⟨rfl, hb⟩
  have HB : Aside0 (Below W10.heap.size W10 W11) := ⟨hb⟩
  replace HT := Aside0.mk (HT.out.trans (HB.out.mono HT.out.size))
  replace m1 := Aside0.mk (Kd.C_below m1.out HB.out)
  replace m2 := Aside0.mk (Kd.C_below m2.out HB.out)
  replace b := Aside0.mk (blk_below HB.out b.out)
  replace r := Aside0.mk (blk_below HB.out r.out)
  replace Mn := Aside0.mk (Kd.C_below Mn.out HB.out)
  replace Mq := Aside0.mk (Kd.C_below Mq.out HB.out)
  replace Mh := Aside0.mk (Kd.C_below Mh.out HB.out)
  replace Mc := Aside0.mk (Kd.C_below Mc.out HB.out)
  clear HB
  clear hb
  have rb0 : W11.cell? ⟨w.heap.size, 0, none⟩ = some (.int .i64 ex) := (blk_cell b.out 0).trans rfl
  have fb0 := blk_frozen b.out 0
  have rb1 : W11.cell? ⟨w.heap.size, 1, none⟩ = some (.slice A1 hs.length c1) := (blk_cell b.out 1).trans rfl
  have fb1 := blk_frozen b.out 1
  have rb2 : W11.cell? ⟨w.heap.size, 2, none⟩ = some (.slice A2 cs.length c2) := (blk_cell b.out 2).trans rfl
  have fb2 := blk_frozen b.out 2
  have rr0 : W11.cell? ⟨W4.heap.size, 0, none⟩ = some (.int .i64 0) := (blk_cell r.out 0).trans rfl
  have fr0 := blk_frozen r.out 0
  have rr1 : W11.cell? ⟨W4.heap.size, 1, none⟩ = some (.int .i64 0) := (blk_cell r.out 1).trans rfl
  have fr1 := blk_frozen r.out 1
  have rNbr := Nbr.out
  have rNrb := Nrb.out
  go_wp2_with fail
  clear rb0 fb0 rb1 fb1 rb2 fb2 rr0 fr0 rr1 fr1 rNbr rNrb
  clear Mh Mc
  refine (contangoref11_Has.calls 3000 ex A1 c1 hs A2 c2 cs false W11 m1.out h1.out m2.out h2.out ei.out).mono ?_
  rintro e W12 ⟨rfl, hb⟩
  have HB : Aside0 (Below W11.heap.size W11 W12) := ⟨hb⟩
  replace HT := Aside0.mk (HT.out.trans (HB.out.mono HT.out.size))
  replace m1 := Aside0.mk (Kd.C_below m1.out HB.out)
  replace m2 := Aside0.mk (Kd.C_below m2.out HB.out)
  replace b := Aside0.mk (blk_below HB.out b.out)
  replace r := Aside0.mk (blk_below HB.out r.out)
  replace Mn := Aside0.mk (Kd.C_below Mn.out HB.out)
  replace Mq := Aside0.mk (Kd.C_below Mq.out HB.out)
  clear HB
  clear hb
  have rb0 : W12.cell? ⟨w.heap.size, 0, none⟩ = some (.int .i64 ex) := (blk_cell b.out 0).trans rfl
  have fb0 := blk_frozen b.out 0
  have rb1 : W12.cell? ⟨w.heap.size, 1, none⟩ = some (.slice A1 hs.length c1) := (blk_cell b.out 1).trans rfl
  have fb1 := blk_frozen b.out 1
  have rb2 : W12.cell? ⟨w.heap.size, 2, none⟩ = some (.slice A2 cs.length c2) := (blk_cell b.out 2).trans rfl
  have fb2 := blk_frozen b.out 2
  have rr0 : W12.cell? ⟨W4.heap.size, 0, none⟩ = some (.int .i64 0) := (blk_cell r.out 0).trans rfl
  have fr0 := blk_frozen r.out 0
  have rr1 : W12.cell? ⟨W4.heap.size, 1, none⟩ = some (.int .i64 0) := (blk_cell r.out 1).trans rfl
  have fr1 := blk_frozen r.out 1
  have rNbr := Nbr.out
  have rNrb := Nrb.out
  go_wp2_with fail
  clear rb0 fb0 rb1 fb1 rb2 fb2 rr0 fr0 rr1 fr1 rNbr rNrb
  refine (contangolaw11_awake.calls true W12 rfl).mono ?_
  rintro e W13 ⟨rfl, hb⟩
  have HB : Aside0 (Below W12.heap.size W12 W13) := ⟨hb⟩
  replace HT := Aside0.mk (HT.out.trans (HB.out.mono HT.out.size))
  replace m1 := Aside0.mk (Kd.C_below m1.out HB.out)
  replace m2 := Aside0.mk (Kd.C_below m2.out HB.out)
  replace b := Aside0.mk (blk_below HB.out b.out)
  replace r := Aside0.mk (blk_below HB.out r.out)
  replace Mn := Aside0.mk (Kd.C_below Mn.out HB.out)
  replace Mq := Aside0.mk (Kd.C_below Mq.out HB.out)
  clear HB
  clear hb
  have rb0 : W13.cell? ⟨w.heap.size, 0, none⟩ = some (.int .i64 ex) := (blk_cell b.out 0).trans rfl
  have fb0 := blk_frozen b.out 0
  have rb1 : W13.cell? ⟨w.heap.size, 1, none⟩ = some (.slice A1 hs.length c1) := (blk_cell b.out 1).trans rfl
  have fb1 := blk_frozen b.out 1
  have rb2 : W13.cell? ⟨w.heap.size, 2, none⟩ = some (.slice A2 cs.length c2) := (blk_cell b.out 2).trans rfl
  have fb2 := blk_frozen b.out 2
  have rr0 : W13.cell? ⟨W4.heap.size, 0, none⟩ = some (.int .i64 0) := (blk_cell r.out 0).trans rfl
  have fr0 := blk_frozen r.out 0
  have rr1 : W13.cell? ⟨W4.heap.size, 1, none⟩ = some (.int .i64 0) := (blk_cell r.out 1).trans rfl
  have fr1 := blk_frozen r.out 1
  have rNbr := Nbr.out
  have rNrb := Nrb.out
  go_wp2_with fail
  clear rb0 fb0 rb1 fb1 rb2 fb2 rr0 fr0 rr1 fr1 rNbr rNrb
  go_ret
  exact ⟨rfl, HT.out⟩
set_option maxHeartbeats 4000000 in
set_option maxRecDepth 100000 in
theorem law9_yes (ex : Int) (A1 : Option Addr) (c1 : Nat) (hs : List S88) (A2 : Option Addr) (c2 : Nat) (cs : List S101) (H : List S73) (C : List S75) (lo hi : Int) (t u : List Int) (w : World) (m1 : Kd.C k88 w A1 hs.length hs) (h1 : hs.length ≤ c1) (m2 : Kd.C k101 w A2 cs.length cs) (h2 : cs.length ≤ c2) (erd : contangolaw11_ready.f 3000 ex hs cs = some true) (em : contangolaw11_Market.f 3000 ex hs cs = some (ex, H, C)) (es : corner_Shortage.f ex H C = some (lo, hi, 0)) (eh : corner_Show.f ex H C false = some (t, 0)) (eg : corner_Show.f ex H C true = some (u, 0)) (ec : corner_Cornered.f ex H C = some (decide (lo > 0), decide (hi > 0), 0)) (ei : contangoref11_Has.f 3000 ex hs cs = some true) (ea : contangoref11_IsTruth.f 3000 ex hs cs t = some true) (eb : contangoref11_IsTruth.f 3000 ex hs cs u = some true) (ej : contangoref11_Short.f 3000 ex hs cs t = some lo) (ek : contangoref11_Short.f 3000 ex hs cs u = some hi) :
    Calls Try.prog 9 #[.agg #[.int .i64 ex, .slice A1 hs.length c1, .slice A2 cs.length c2]] w fun e w' => e = .returned (.bool true) ∧ Below w.heap.size w w' := by
  replace m1 := Aside0.mk m1
  replace h1 := Aside0.mk h1
  replace m2 := Aside0.mk m2
  replace h2 := Aside0.mk h2
  replace erd := Aside0.mk erd
  replace em := Aside0.mk em
  replace es := Aside0.mk es
  replace eh := Aside0.mk eh
  replace eg := Aside0.mk eg
  replace ec := Aside0.mk ec
  replace ei := Aside0.mk ei
  replace ea := Aside0.mk ea
  replace eb := Aside0.mk eb
  replace ej := Aside0.mk ej
  replace ek := Aside0.mk ek
  have HT : Aside0 (Below w.heap.size w w) := ⟨Below.refl _ _⟩
  go_enter Try.func9, Try.ntmps9
  go_wp2_with fail
  obtain ⟨W1, HW⟩ : ∃ W, Aside0 (w.alloc (.cells #[.int .i64 ex, .slice A1 hs.length c1, .slice A2 cs.length c2] 25) = W) := ⟨_, ⟨rfl⟩⟩
  have b : Aside0 (W1.heap[w.heap.size]? = some (.cells #[.int .i64 ex, .slice A1 hs.length c1, .slice A2 cs.length c2] 25)) := ⟨by rw [← HW.out]; exact heap_alloc_new w _⟩
  have HB : Aside0 (Below w.heap.size w W1) := ⟨by rw [← HW.out]; exact (Below.refl _ _).alloc (Nat.le_refl _) _⟩
  replace HT := Aside0.mk (HT.out.trans (HB.out.mono HT.out.size))
  replace m1 := Aside0.mk (Kd.C_below m1.out HB.out)
  replace m2 := Aside0.mk (Kd.C_below m2.out HB.out)
  clear HB
  rw [HW.out]
  clear HW
  have rb0 : W1.cell? ⟨w.heap.size, 0, none⟩ = some (.int .i64 ex) := (blk_cell b.out 0).trans rfl
  have fb0 := blk_frozen b.out 0
  have rb1 : W1.cell? ⟨w.heap.size, 1, none⟩ = some (.slice A1 hs.length c1) := (blk_cell b.out 1).trans rfl
  have fb1 := blk_frozen b.out 1
  have rb2 : W1.cell? ⟨w.heap.size, 2, none⟩ = some (.slice A2 cs.length c2) := (blk_cell b.out 2).trans rfl
  have fb2 := blk_frozen b.out 2
  go_wp2_with fail
  clear rb0 fb0 rb1 fb1 rb2 fb2
  refine (contangolaw11_ready.calls 3000 ex A1 c1 hs A2 c2 cs true W1 m1.out h1.out m2.out h2.out erd.out).mono ?_
  rintro e W2 ⟨rfl, hb⟩
  have HB : Aside0 (Below W1.heap.size W1 W2) := ⟨hb⟩
  replace HT := Aside0.mk (HT.out.trans (HB.out.mono HT.out.size))
  replace m1 := Aside0.mk (Kd.C_below m1.out HB.out)
  replace m2 := Aside0.mk (Kd.C_below m2.out HB.out)
  replace b := Aside0.mk (blk_below HB.out b.out)
  clear HB
  clear hb
  have rb0 : W2.cell? ⟨w.heap.size, 0, none⟩ = some (.int .i64 ex) := (blk_cell b.out 0).trans rfl
  have fb0 := blk_frozen b.out 0
  have rb1 : W2.cell? ⟨w.heap.size, 1, none⟩ = some (.slice A1 hs.length c1) := (blk_cell b.out 1).trans rfl
  have fb1 := blk_frozen b.out 1
  have rb2 : W2.cell? ⟨w.heap.size, 2, none⟩ = some (.slice A2 cs.length c2) := (blk_cell b.out 2).trans rfl
  have fb2 := blk_frozen b.out 2
  go_wp2_with fail
  clear rb0 fb0 rb1 fb1 rb2 fb2
  refine (contangolaw11_Market.calls 3000 ex A1 c1 hs A2 c2 cs ex H C W2 m1.out h1.out m2.out h2.out em.out).mono ?_
  rintro e W3 ⟨vh, vc, rfl, hrh, hrc, hb⟩
  have HB : Aside0 (Below W2.heap.size W2 W3) := ⟨hb⟩
  replace HT := Aside0.mk (HT.out.trans (HB.out.mono HT.out.size))
  replace m1 := Aside0.mk (Kd.C_below m1.out HB.out)
  replace m2 := Aside0.mk (Kd.C_below m2.out HB.out)
  replace b := Aside0.mk (blk_below HB.out b.out)
  clear HB
  obtain ⟨Ah, ch, rfl, hc, hC⟩ := Kd.R_reads hrh
  have Mh := Aside0.mk hC
  have Lh := Aside0.mk hc
  clear hc hC hrh
  obtain ⟨Ac, cc, rfl, hc, hC⟩ := Kd.R_reads hrc
  have Mc := Aside0.mk hC
  have Lc := Aside0.mk hc
  clear hc hC hrc
  clear hb
  have rb0 : W3.cell? ⟨w.heap.size, 0, none⟩ = some (.int .i64 ex) := (blk_cell b.out 0).trans rfl
  have fb0 := blk_frozen b.out 0
  have rb1 : W3.cell? ⟨w.heap.size, 1, none⟩ = some (.slice A1 hs.length c1) := (blk_cell b.out 1).trans rfl
  have fb1 := blk_frozen b.out 1
  have rb2 : W3.cell? ⟨w.heap.size, 2, none⟩ = some (.slice A2 cs.length c2) := (blk_cell b.out 2).trans rfl
  have fb2 := blk_frozen b.out 2
  go_wp2_with fail
  clear rb0 fb0 rb1 fb1 rb2 fb2
  refine (corner_Shortage.calls ex Ah ch H Ac cc C lo hi 0 W3 Mh.out Lh.out Mc.out Lc.out es.out).mono ?_
  rintro e W4 ⟨rfl, hb⟩
  have HB : Aside0 (Below W3.heap.size W3 W4) := ⟨hb⟩
  replace HT := Aside0.mk (HT.out.trans (HB.out.mono HT.out.size))
  replace m1 := Aside0.mk (Kd.C_below m1.out HB.out)
  replace m2 := Aside0.mk (Kd.C_below m2.out HB.out)
  replace b := Aside0.mk (blk_below HB.out b.out)
  replace Mh := Aside0.mk (Kd.C_below Mh.out HB.out)
  replace Mc := Aside0.mk (Kd.C_below Mc.out HB.out)
  clear HB
  clear hb
  have rb0 : W4.cell? ⟨w.heap.size, 0, none⟩ = some (.int .i64 ex) := (blk_cell b.out 0).trans rfl
  have fb0 := blk_frozen b.out 0
  have rb1 : W4.cell? ⟨w.heap.size, 1, none⟩ = some (.slice A1 hs.length c1) := (blk_cell b.out 1).trans rfl
  have fb1 := blk_frozen b.out 1
  have rb2 : W4.cell? ⟨w.heap.size, 2, none⟩ = some (.slice A2 cs.length c2) := (blk_cell b.out 2).trans rfl
  have fb2 := blk_frozen b.out 2
  have ab0 : ∀ o, (W4.alloc o).cell? ⟨w.heap.size, 0, none⟩ = some (.int .i64 ex) := fun o => (blk_cell (blk_old b.out o) 0).trans rfl
  have ab1 : ∀ o, (W4.alloc o).cell? ⟨w.heap.size, 1, none⟩ = some (.slice A1 hs.length c1) := fun o => (blk_cell (blk_old b.out o) 1).trans rfl
  have ab2 : ∀ o, (W4.alloc o).cell? ⟨w.heap.size, 2, none⟩ = some (.slice A2 cs.length c2) := fun o => (blk_cell (blk_old b.out o) 2).trans rfl
  go_wp2_with fail
  clear rb0 fb0 rb1 fb1 rb2 fb2 ab0 ab1 ab2
  obtain ⟨W5, HW⟩ : ∃ W, Aside0 (W4.alloc (.cells #[.int .i64 lo, .int .i64 hi] 46) = W) := ⟨_, ⟨rfl⟩⟩
  have Nbr : Aside0 (w.heap.size ≠ W4.heap.size) := ⟨Nat.ne_of_lt (blk_lt b.out)⟩
  have Nrb : Aside0 (W4.heap.size ≠ w.heap.size) := ⟨Nat.ne_of_gt (blk_lt b.out)⟩
  have r : Aside0 (W5.heap[W4.heap.size]? = some (.cells #[.int .i64 lo, .int .i64 hi] 46)) := ⟨by rw [← HW.out]; exact heap_alloc_new W4 _⟩
  have HB : Aside0 (Below W4.heap.size W4 W5) := ⟨by rw [← HW.out]; exact (Below.refl _ _).alloc (Nat.le_refl _) _⟩
  replace HT := Aside0.mk (HT.out.trans (HB.out.mono HT.out.size))
  replace m1 := Aside0.mk (Kd.C_below m1.out HB.out)
  replace m2 := Aside0.mk (Kd.C_below m2.out HB.out)
  replace b := Aside0.mk (blk_below HB.out b.out)
  replace Mh := Aside0.mk (Kd.C_below Mh.out HB.out)
  replace Mc := Aside0.mk (Kd.C_below Mc.out HB.out)
  clear HB
  rw [HW.out]
  clear HW
  clear Mh Mc
  have rb0 : W5.cell? ⟨w.heap.size, 0, none⟩ = some (.int .i64 ex) := (blk_cell b.out 0).trans rfl
  have fb0 := blk_frozen b.out 0
  have rb1 : W5.cell? ⟨w.heap.size, 1, none⟩ = some (.slice A1 hs.length c1) := (blk_cell b.out 1).trans rfl
  have fb1 := blk_frozen b.out 1
  have rb2 : W5.cell? ⟨w.heap.size, 2, none⟩ = some (.slice A2 cs.length c2) := (blk_cell b.out 2).trans rfl
  have fb2 := blk_frozen b.out 2
  have rr0 : W5.cell? ⟨W4.heap.size, 0, none⟩ = some (.int .i64 lo) := (blk_cell r.out 0).trans rfl
  have fr0 := blk_frozen r.out 0
  have rr1 : W5.cell? ⟨W4.heap.size, 1, none⟩ = some (.int .i64 hi) := (blk_cell r.out 1).trans rfl
  have fr1 := blk_frozen r.out 1
  have rNbr := Nbr.out
  have rNrb := Nrb.out
  go_wp2_with fail
  clear rb0 fb0 rb1 fb1 rb2 fb2 rr0 fr0 rr1 fr1 rNbr rNrb
  refine (contangolaw11_Market.calls 3000 ex A1 c1 hs A2 c2 cs ex H C W5 m1.out h1.out m2.out h2.out em.out).mono ?_
  rintro e W6 ⟨vh, vc, rfl, hrh, hrc, hb⟩
  have HB : Aside0 (Below W5.heap.size W5 W6) := ⟨hb⟩
  replace HT := Aside0.mk (HT.out.trans (HB.out.mono HT.out.size))
  replace m1 := Aside0.mk (Kd.C_below m1.out HB.out)
  replace m2 := Aside0.mk (Kd.C_below m2.out HB.out)
  replace b := Aside0.mk (blk_below HB.out b.out)
  replace r := Aside0.mk (blk_below HB.out r.out)
  clear HB
  obtain ⟨Ah, ch, rfl, hc, hC⟩ := Kd.R_reads hrh
  have Mh := Aside0.mk hC
  have Lh := Aside0.mk hc
  clear hc hC hrh
  obtain ⟨Ac, cc, rfl, hc, hC⟩ := Kd.R_reads hrc
  have Mc := Aside0.mk hC
  have Lc := Aside0.mk hc
  clear hc hC hrc
  clear hb
  have rb0 : W6.cell? ⟨w.heap.size, 0, none⟩ = some (.int .i64 ex) := (blk_cell b.out 0).trans rfl
  have fb0 := blk_frozen b.out 0
  have rb1 : W6.cell? ⟨w.heap.size, 1, none⟩ = some (.slice A1 hs.length c1) := (blk_cell b.out 1).trans rfl
  have fb1 := blk_frozen b.out 1
  have rb2 : W6.cell? ⟨w.heap.size, 2, none⟩ = some (.slice A2 cs.length c2) := (blk_cell b.out 2).trans rfl
  have fb2 := blk_frozen b.out 2
  have rr0 : W6.cell? ⟨W4.heap.size, 0, none⟩ = some (.int .i64 lo) := (blk_cell r.out 0).trans rfl
  have fr0 := blk_frozen r.out 0
  have rr1 : W6.cell? ⟨W4.heap.size, 1, none⟩ = some (.int .i64 hi) := (blk_cell r.out 1).trans rfl
  have fr1 := blk_frozen r.out 1
  have rNbr := Nbr.out
  have rNrb := Nrb.out
  go_wp2_with fail
  clear rb0 fb0 rb1 fb1 rb2 fb2 rr0 fr0 rr1 fr1 rNbr rNrb
  refine (corner_Show.calls ex Ah ch H Ac cc C false t 0 W6 Mh.out Lh.out Mc.out Lc.out eh.out).mono ?_
  rintro e W7 ⟨vn, rfl, hrn, hb⟩
  have HB : Aside0 (Below W6.heap.size W6 W7) := ⟨hb⟩
  replace HT := Aside0.mk (HT.out.trans (HB.out.mono HT.out.size))
  replace m1 := Aside0.mk (Kd.C_below m1.out HB.out)
  replace m2 := Aside0.mk (Kd.C_below m2.out HB.out)
  replace b := Aside0.mk (blk_below HB.out b.out)
  replace r := Aside0.mk (blk_below HB.out r.out)
  replace Mh := Aside0.mk (Kd.C_below Mh.out HB.out)
  replace Mc := Aside0.mk (Kd.C_below Mc.out HB.out)
  clear HB
  obtain ⟨An, cn, rfl, hc, hC⟩ := Kd.R_reads hrn
  have Mn := Aside0.mk hC
  have Ln := Aside0.mk hc
  clear hc hC hrn
  clear hb
  have rb0 : W7.cell? ⟨w.heap.size, 0, none⟩ = some (.int .i64 ex) := (blk_cell b.out 0).trans rfl
  have fb0 := blk_frozen b.out 0
  have rb1 : W7.cell? ⟨w.heap.size, 1, none⟩ = some (.slice A1 hs.length c1) := (blk_cell b.out 1).trans rfl
  have fb1 := blk_frozen b.out 1
  have rb2 : W7.cell? ⟨w.heap.size, 2, none⟩ = some (.slice A2 cs.length c2) := (blk_cell b.out 2).trans rfl
  have fb2 := blk_frozen b.out 2
  have rr0 : W7.cell? ⟨W4.heap.size, 0, none⟩ = some (.int .i64 lo) := (blk_cell r.out 0).trans rfl
  have fr0 := blk_frozen r.out 0
  have rr1 : W7.cell? ⟨W4.heap.size, 1, none⟩ = some (.int .i64 hi) := (blk_cell r.out 1).trans rfl
  have fr1 := blk_frozen r.out 1
  have rNbr := Nbr.out
  have rNrb := Nrb.out
  go_wp2_with fail
  clear rb0 fb0 rb1 fb1 rb2 fb2 rr0 fr0 rr1 fr1 rNbr rNrb
  clear Mh Mc
  refine (contangolaw11_Market.calls 3000 ex A1 c1 hs A2 c2 cs ex H C W7 m1.out h1.out m2.out h2.out em.out).mono ?_
  rintro e W8 ⟨vh, vc, rfl, hrh, hrc, hb⟩
  have HB : Aside0 (Below W7.heap.size W7 W8) := ⟨hb⟩
  replace HT := Aside0.mk (HT.out.trans (HB.out.mono HT.out.size))
  replace m1 := Aside0.mk (Kd.C_below m1.out HB.out)
  replace m2 := Aside0.mk (Kd.C_below m2.out HB.out)
  replace b := Aside0.mk (blk_below HB.out b.out)
  replace r := Aside0.mk (blk_below HB.out r.out)
  replace Mn := Aside0.mk (Kd.C_below Mn.out HB.out)
  clear HB
  obtain ⟨Ah, ch, rfl, hc, hC⟩ := Kd.R_reads hrh
  have Mh := Aside0.mk hC
  have Lh := Aside0.mk hc
  clear hc hC hrh
  obtain ⟨Ac, cc, rfl, hc, hC⟩ := Kd.R_reads hrc
  have Mc := Aside0.mk hC
  have Lc := Aside0.mk hc
  clear hc hC hrc
  clear hb
  have rb0 : W8.cell? ⟨w.heap.size, 0, none⟩ = some (.int .i64 ex) := (blk_cell b.out 0).trans rfl
  have fb0 := blk_frozen b.out 0
  have rb1 : W8.cell? ⟨w.heap.size, 1, none⟩ = some (.slice A1 hs.length c1) := (blk_cell b.out 1).trans rfl
  have fb1 := blk_frozen b.out 1
  have rb2 : W8.cell? ⟨w.heap.size, 2, none⟩ = some (.slice A2 cs.length c2) := (blk_cell b.out 2).trans rfl
  have fb2 := blk_frozen b.out 2
  have rr0 : W8.cell? ⟨W4.heap.size, 0, none⟩ = some (.int .i64 lo) := (blk_cell r.out 0).trans rfl
  have fr0 := blk_frozen r.out 0
  have rr1 : W8.cell? ⟨W4.heap.size, 1, none⟩ = some (.int .i64 hi) := (blk_cell r.out 1).trans rfl
  have fr1 := blk_frozen r.out 1
  have rNbr := Nbr.out
  have rNrb := Nrb.out
  go_wp2_with fail
  clear rb0 fb0 rb1 fb1 rb2 fb2 rr0 fr0 rr1 fr1 rNbr rNrb
  refine (corner_Show.calls ex Ah ch H Ac cc C true u 0 W8 Mh.out Lh.out Mc.out Lc.out eg.out).mono ?_
  rintro e W9 ⟨vq, rfl, hrq, hb⟩
  have HB : Aside0 (Below W8.heap.size W8 W9) := ⟨hb⟩
  replace HT := Aside0.mk (HT.out.trans (HB.out.mono HT.out.size))
  replace m1 := Aside0.mk (Kd.C_below m1.out HB.out)
  replace m2 := Aside0.mk (Kd.C_below m2.out HB.out)
  replace b := Aside0.mk (blk_below HB.out b.out)
  replace r := Aside0.mk (blk_below HB.out r.out)
  replace Mn := Aside0.mk (Kd.C_below Mn.out HB.out)
  replace Mh := Aside0.mk (Kd.C_below Mh.out HB.out)
  replace Mc := Aside0.mk (Kd.C_below Mc.out HB.out)
  clear HB
  obtain ⟨Aq, cq, rfl, hc, hC⟩ := Kd.R_reads hrq
  have Mq := Aside0.mk hC
  have Lq := Aside0.mk hc
  clear hc hC hrq
  clear hb
  have rb0 : W9.cell? ⟨w.heap.size, 0, none⟩ = some (.int .i64 ex) := (blk_cell b.out 0).trans rfl
  have fb0 := blk_frozen b.out 0
  have rb1 : W9.cell? ⟨w.heap.size, 1, none⟩ = some (.slice A1 hs.length c1) := (blk_cell b.out 1).trans rfl
  have fb1 := blk_frozen b.out 1
  have rb2 : W9.cell? ⟨w.heap.size, 2, none⟩ = some (.slice A2 cs.length c2) := (blk_cell b.out 2).trans rfl
  have fb2 := blk_frozen b.out 2
  have rr0 : W9.cell? ⟨W4.heap.size, 0, none⟩ = some (.int .i64 lo) := (blk_cell r.out 0).trans rfl
  have fr0 := blk_frozen r.out 0
  have rr1 : W9.cell? ⟨W4.heap.size, 1, none⟩ = some (.int .i64 hi) := (blk_cell r.out 1).trans rfl
  have fr1 := blk_frozen r.out 1
  have rNbr := Nbr.out
  have rNrb := Nrb.out
  go_wp2_with fail
  clear rb0 fb0 rb1 fb1 rb2 fb2 rr0 fr0 rr1 fr1 rNbr rNrb
  clear Mh Mc
  refine (contangolaw11_Market.calls 3000 ex A1 c1 hs A2 c2 cs ex H C W9 m1.out h1.out m2.out h2.out em.out).mono ?_
  rintro e W10 ⟨vh, vc, rfl, hrh, hrc, hb⟩
  have HB : Aside0 (Below W9.heap.size W9 W10) := ⟨hb⟩
  replace HT := Aside0.mk (HT.out.trans (HB.out.mono HT.out.size))
  replace m1 := Aside0.mk (Kd.C_below m1.out HB.out)
  replace m2 := Aside0.mk (Kd.C_below m2.out HB.out)
  replace b := Aside0.mk (blk_below HB.out b.out)
  replace r := Aside0.mk (blk_below HB.out r.out)
  replace Mn := Aside0.mk (Kd.C_below Mn.out HB.out)
  replace Mq := Aside0.mk (Kd.C_below Mq.out HB.out)
  clear HB
  obtain ⟨Ah, ch, rfl, hc, hC⟩ := Kd.R_reads hrh
  have Mh := Aside0.mk hC
  have Lh := Aside0.mk hc
  clear hc hC hrh
  obtain ⟨Ac, cc, rfl, hc, hC⟩ := Kd.R_reads hrc
  have Mc := Aside0.mk hC
  have Lc := Aside0.mk hc
  clear hc hC hrc
  clear hb
  have rb0 : W10.cell? ⟨w.heap.size, 0, none⟩ = some (.int .i64 ex) := (blk_cell b.out 0).trans rfl
  have fb0 := blk_frozen b.out 0
  have rb1 : W10.cell? ⟨w.heap.size, 1, none⟩ = some (.slice A1 hs.length c1) := (blk_cell b.out 1).trans rfl
  have fb1 := blk_frozen b.out 1
  have rb2 : W10.cell? ⟨w.heap.size, 2, none⟩ = some (.slice A2 cs.length c2) := (blk_cell b.out 2).trans rfl
  have fb2 := blk_frozen b.out 2
  have rr0 : W10.cell? ⟨W4.heap.size, 0, none⟩ = some (.int .i64 lo) := (blk_cell r.out 0).trans rfl
  have fr0 := blk_frozen r.out 0
  have rr1 : W10.cell? ⟨W4.heap.size, 1, none⟩ = some (.int .i64 hi) := (blk_cell r.out 1).trans rfl
  have fr1 := blk_frozen r.out 1
  have rNbr := Nbr.out
  have rNrb := Nrb.out
  go_wp2_with fail
  clear rb0 fb0 rb1 fb1 rb2 fb2 rr0 fr0 rr1 fr1 rNbr rNrb
  refine (corner_Cornered.calls ex Ah ch H Ac cc C (decide (lo > 0)) (decide (hi > 0)) 0 W10 Mh.out Lh.out Mc.out Lc.out ec.out).mono ?_
  rintro e W11 ⟨rfl, hb⟩
  have HB : Aside0 (Below W10.heap.size W10 W11) := ⟨hb⟩
  replace HT := Aside0.mk (HT.out.trans (HB.out.mono HT.out.size))
  replace m1 := Aside0.mk (Kd.C_below m1.out HB.out)
  replace m2 := Aside0.mk (Kd.C_below m2.out HB.out)
  replace b := Aside0.mk (blk_below HB.out b.out)
  replace r := Aside0.mk (blk_below HB.out r.out)
  replace Mn := Aside0.mk (Kd.C_below Mn.out HB.out)
  replace Mq := Aside0.mk (Kd.C_below Mq.out HB.out)
  replace Mh := Aside0.mk (Kd.C_below Mh.out HB.out)
  replace Mc := Aside0.mk (Kd.C_below Mc.out HB.out)
  clear HB
  clear hb
  have rb0 : W11.cell? ⟨w.heap.size, 0, none⟩ = some (.int .i64 ex) := (blk_cell b.out 0).trans rfl
  have fb0 := blk_frozen b.out 0
  have rb1 : W11.cell? ⟨w.heap.size, 1, none⟩ = some (.slice A1 hs.length c1) := (blk_cell b.out 1).trans rfl
  have fb1 := blk_frozen b.out 1
  have rb2 : W11.cell? ⟨w.heap.size, 2, none⟩ = some (.slice A2 cs.length c2) := (blk_cell b.out 2).trans rfl
  have fb2 := blk_frozen b.out 2
  have rr0 : W11.cell? ⟨W4.heap.size, 0, none⟩ = some (.int .i64 lo) := (blk_cell r.out 0).trans rfl
  have fr0 := blk_frozen r.out 0
  have rr1 : W11.cell? ⟨W4.heap.size, 1, none⟩ = some (.int .i64 hi) := (blk_cell r.out 1).trans rfl
  have fr1 := blk_frozen r.out 1
  have rNbr := Nbr.out
  have rNrb := Nrb.out
  go_wp2_with fail
  clear rb0 fb0 rb1 fb1 rb2 fb2 rr0 fr0 rr1 fr1 rNbr rNrb
  clear Mh Mc
  refine (contangoref11_Has.calls 3000 ex A1 c1 hs A2 c2 cs true W11 m1.out h1.out m2.out h2.out ei.out).mono ?_
  rintro e W12 ⟨rfl, hb⟩
  have HB : Aside0 (Below W11.heap.size W11 W12) := ⟨hb⟩
  replace HT := Aside0.mk (HT.out.trans (HB.out.mono HT.out.size))
  replace m1 := Aside0.mk (Kd.C_below m1.out HB.out)
  replace m2 := Aside0.mk (Kd.C_below m2.out HB.out)
  replace b := Aside0.mk (blk_below HB.out b.out)
  replace r := Aside0.mk (blk_below HB.out r.out)
  replace Mn := Aside0.mk (Kd.C_below Mn.out HB.out)
  replace Mq := Aside0.mk (Kd.C_below Mq.out HB.out)
  clear HB
  clear hb
  have rb0 : W12.cell? ⟨w.heap.size, 0, none⟩ = some (.int .i64 ex) := (blk_cell b.out 0).trans rfl
  have fb0 := blk_frozen b.out 0
  have rb1 : W12.cell? ⟨w.heap.size, 1, none⟩ = some (.slice A1 hs.length c1) := (blk_cell b.out 1).trans rfl
  have fb1 := blk_frozen b.out 1
  have rb2 : W12.cell? ⟨w.heap.size, 2, none⟩ = some (.slice A2 cs.length c2) := (blk_cell b.out 2).trans rfl
  have fb2 := blk_frozen b.out 2
  have rr0 : W12.cell? ⟨W4.heap.size, 0, none⟩ = some (.int .i64 lo) := (blk_cell r.out 0).trans rfl
  have fr0 := blk_frozen r.out 0
  have rr1 : W12.cell? ⟨W4.heap.size, 1, none⟩ = some (.int .i64 hi) := (blk_cell r.out 1).trans rfl
  have fr1 := blk_frozen r.out 1
  have rNbr := Nbr.out
  have rNrb := Nrb.out
  go_wp2_with fail
  clear rb0 fb0 rb1 fb1 rb2 fb2 rr0 fr0 rr1 fr1 rNbr rNrb
  have sb0 := cell_regrown (show W12.cell? ⟨w.heap.size, 0, none⟩ = some (.int .i64 ex) from (blk_cell b.out 0).trans rfl)
  have sb1 := cell_regrown (show W12.cell? ⟨w.heap.size, 1, none⟩ = some (.slice A1 hs.length c1) from (blk_cell b.out 1).trans rfl)
  have sb2 := cell_regrown (show W12.cell? ⟨w.heap.size, 2, none⟩ = some (.slice A2 cs.length c2) from (blk_cell b.out 2).trans rfl)
  have sr0 := cell_regrown (show W12.cell? ⟨W4.heap.size, 0, none⟩ = some (.int .i64 lo) from (blk_cell r.out 0).trans rfl)
  have sr1 := cell_regrown (show W12.cell? ⟨W4.heap.size, 1, none⟩ = some (.int .i64 hi) from (blk_cell r.out 1).trans rfl)
  have Gn : GoodT W12 An cn t ex hs cs lo := ⟨Mn.out, Ln.out, ea.out, ej.out⟩
  have Gq : GoodT W12 Aq cq u ex hs cs hi := ⟨Mq.out, Lq.out, eb.out, ek.out⟩
  have HI : Aside0 (∀ (A : Option Addr) (c : Nat) (l : List Int) (r : Int) (hg : GoodT W12 A c l ex hs cs r) (d : Nat) (os : Array Obj), Calls Try.prog 26 #[.agg #[.int .i64 ex, .slice A1 hs.length c1, .slice A2 cs.length c2], .slice A l.length c] (Go.Sort.grow (redrawn W12 d) os) fun e w' => e = .returned (.bool true) ∧ ∃ p : Regrown, w' = Go.Sort.grow (redrawn W12 p.d) p.os) := ⟨fun A c l r hg => quiet_of 26 _ _ W12 fun V hV => contangoref11_IsTruth.calls 3000 ex A1 c1 hs A2 c2 cs A c l true V (Kd.C_below m1.out hV) h1.out (Kd.C_below m2.out hV) h2.out (Kd.C_below hg.hC hV) hg.le hg.it⟩
  have HS : Aside0 (∀ (A : Option Addr) (c : Nat) (l : List Int) (r : Int) (hg : GoodT W12 A c l ex hs cs r) (d : Nat) (os : Array Obj), Calls Try.prog 34 #[.agg #[.int .i64 ex, .slice A1 hs.length c1, .slice A2 cs.length c2], .slice A l.length c] (Go.Sort.grow (redrawn W12 d) os) fun e w' => e = .returned (.int .i64 r) ∧ ∃ p : Regrown, w' = Go.Sort.grow (redrawn W12 p.d) p.os) := ⟨fun A c l r hg => quiet_of 34 _ _ W12 fun V hV => contangoref11_Short.calls 3000 ex A1 c1 hs A2 c2 cs A c l r V (Kd.C_below m1.out hV) h1.out (Kd.C_below m2.out hV) h2.out (Kd.C_below hg.hC hV) hg.le hg.sh⟩
  have HA : Aside0 (∀ (d : Nat) (os : Array Obj), Calls Try.prog 19 #[] (Go.Sort.grow (redrawn W12 d) os) fun e w' => e = .returned (.bool true) ∧ ∃ p : Regrown, w' = Go.Sort.grow (redrawn W12 p.d) p.os) := ⟨quiet_of 19 _ _ W12 fun V hV => contangolaw11_awake.calls true V rfl⟩
  refine wp_region_quiet_below (by kernel_rfl) (by kernel_rfl) ?_
  repeat (first | go_big_quiet_step (first | (go_at_call 26; exact HI.out _ _ _ _ (by assumption) _ _) | (go_at_call 34; exact HS.out _ _ _ _ (by assumption) _ _) | (go_at_call 19; exact HA.out _ _)) | quiet_step (first | (go_at_call 26; exact HI.out _ _ _ _ (by assumption) _ _) | (go_at_call 34; exact HS.out _ _ _ _ (by assumption) _ _) | (go_at_call 19; exact HA.out _ _)))
  refine wpQuiet_nil ?_
  intro _ hw'
  obtain ⟨⟨dq, osq⟩, hw''⟩ := hw'
  subst hw''
  go_wp2_with fail
  go_ret
  exact ⟨rfl, HT.out.trans ((below_regrown W12 dq osq).mono HT.out.size)⟩
theorem law9 (ex : Int) (A1 : Option Addr) (c1 : Nat) (hs : List S88) (A2 : Option Addr) (c2 : Nat) (cs : List S101) (w : World) (m1 : Kd.C k88 w A1 hs.length hs) (h1 : hs.length ≤ c1) (m2 : Kd.C k101 w A2 cs.length cs) (h2 : cs.length ≤ c2) :
    Calls Try.prog 9 #[.agg #[.int .i64 ex, .slice A1 hs.length c1, .slice A2 cs.length c2]] w fun e w' => e = .returned (.bool true) ∧ Below w.heap.size w w' := by
  have er := ready_f 3000 ex hs cs (by omega)
  by_cases hT : (hs.length ≤ 9 ∧ cs.length ≤ 11) ∧ ck ex (hs.map cvH) (cs.map cvC) = 0
  · obtain ⟨⟨T1, T2⟩, h0⟩ := hT
    rw [decide_eq_true ⟨T1, T2⟩, decide_eq_true h0] at er
    have em := market_f 3000 ex hs cs (by omega) (by omega) (by omega)
    obtain ⟨z1, z2, z3, z4, z5, z6, z7⟩ := ck_zero h0
    have hok := ck_okCs h0
    have ei := has_f 3000 ex hs cs (by simpa using z2) z6 (by omega)
    rw [← pos_short h0] at ei
    cases hs3 : (shortR ex (hs.map cvH) (cs.map cvC)).2.2 with
    | false =>
      rw [hs3] at ei
      have ea := asked_no _ _ _ h0 hs3
      exact law9_no ex A1 c1 hs A2 c2 cs _ _ w m1 h1 m2 h2 er em (short_of ea) (show_bad ea (by omega) false) (show_bad ea (by omega) true) (cornered_of ea) ei
    | true =>
      rw [hs3] at ei
      have ea := asked_yes _ _ _ h0 hs3
      obtain ⟨n1, n2, n3⟩ := shortR_ok hs3
      have ne : ∀ b, lst b (cs.map cvC) (hs.map cvH) 0 ex ≠ nev := by
        intro b
        obtain ⟨t, t1, t2, _⟩ := lst_att false _ _ _ _ n1
        exact (lst_le b _ hok _ _ _ t (by omega) z6 t1 t2).1
      have tr : ∀ b, isT ex (hs.map cvH) (trL b (cs.map cvC) (hs.map cvH) 0 ex) = true ∧ lkS b (cs.map cvC) (hs.map cvH) 0 (trL b (cs.map cvC) (hs.map cvH) 0 ex) = lst b (cs.map cvC) (hs.map cvH) 0 ex := by
        intro b
        obtain ⟨t1, t2, t3⟩ := trL_ok b _ _ _ _ (ne b)
        exact ⟨by unfold isT; rw [t1, t2]; simp, t3⟩
      have eI : ∀ b, contangoref11_IsTruth.f 3000 ex hs cs (trL b (cs.map cvC) (hs.map cvH) 0 ex) = some true := fun b => by
        rw [istruth_f 3000 ex hs cs _ (by omega) z6 (by omega), (tr b).1]
      have eo : ∀ b, contangoref11_Short.f 3000 ex hs cs (trL b (cs.map cvC) (hs.map cvH) 0 ex) = some (lkS false (cs.map cvC) (hs.map cvH) 0 (trL b (cs.map cvC) (hs.map cvH) 0 ex)) := fun b => short_f 3000 ex hs cs _ h0 (tr b).1 (by omega)
      have eo1 := eo false
      rw [(tr false).2, ← n2] at eo1
      have eo2 := eo true
      have k1 := (tr true).2
      rw [lkS_neg] at k1
      rw [show lkS false (cs.map cvC) (hs.map cvH) 0 (trL true (cs.map cvC) (hs.map cvH) 0 ex) = (shortR ex (hs.map cvH) (cs.map cvC)).2.1 from by omega] at eo2
      exact law9_yes ex A1 c1 hs A2 c2 cs _ _ _ _ _ _ w m1 h1 m2 h2 er em (short_of ea) (show_ok ea false) (show_ok ea true) (cornered_of ea) ei (eI false) (eI true) eo1 eo2
  · rw [show (decide (hs.length ≤ 9 ∧ cs.length ≤ 11) && decide (ck ex (hs.map cvH) (cs.map cvC) = 0)) = false from by rw [← Bool.decide_and]; exact decide_eq_false hT] at er
    exact law9_thin ex A1 c1 hs A2 c2 cs w m1 h1 m2 h2 er
end Go.Proofs.Ytgjifkegfbpjkaa.Q
end
