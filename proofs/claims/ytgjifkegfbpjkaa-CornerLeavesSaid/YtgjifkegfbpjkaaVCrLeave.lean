/- Walks: Leave of the answer, package contangoref11. -/
import Derived.Test.YtgjifkegfbpjkaaVCrAny
import Derived.Test.YtgjifkegfbpjkaaVQf56
import Derived.Test.YtgjifkegfbpjkaaVQf37
import Derived.Test.YtgjifkegfbpjkaaVCkShow
section
namespace Go.Proofs.Ytgjifkegfbpjkaa.Q
set_option linter.unusedVariables false
open Go.RowKit Go.Maps Go.Proofs.YtgjifkegfbpjkaaW.PrintWords Go.Proofs.YtgjifkegfbpjkaaW.PrintLast Go.Proofs.YtgjifkegfbpjkaaW.PrintMore
theorem heap88 : Kd.Heap k88 := ⟨fun _ h => h⟩
theorem wo57 (k : Nat) (ex : Int) (A1 : Option Addr) (c1 : Nat) (hs : List S88) (A2 : Option Addr) (c2 : Nat) (cs : List S101) (bits : Int) (t : Int × List S88 × List S101 × List Int) (w : World) (m1 : Kd.C k88 w A1 hs.length hs) (h1 : hs.length ≤ c1) (h : contangoref11_Without.f k ex hs cs bits = some t) :
    Calls Try.prog 57 #[.agg #[.int .i64 ex, .slice A1 hs.length c1, .slice A2 cs.length c2], .int .i64 bits] w fun e w' => t.2.2.1 = cs ∧ ∃ (A4 : Option Addr) (c4 : Nat) (A3 : Option Addr) (c3 : Nat), e = .returned (.tuple #[.agg #[.int .i64 t.1, .slice A4 t.2.1.length c4, .slice A2 cs.length c2], .slice A3 t.2.2.2.length c3]) ∧ t.2.1.length ≤ c4 ∧ t.2.2.2.length ≤ c3 ∧ Kd.R k88 88 w' w.heap.size (fun _ => True) (.slice A4 t.2.1.length c4) t.2.1 ∧ Kd.R (Kd.int .i64) 3 w' w.heap.size (fun _ => True) (.slice A3 t.2.2.2.length c3) t.2.2.2 ∧ Below w.heap.size w w' := by
  obtain ⟨r1, r2, r3, r4⟩ := t
  refine (without_any k ex A1 c1 hs (fun _ => False) A2 c2 cs bits r1 r2 r3 r4 w w (Below.refl _ _) (Kd.C_kept_came heap88 m1 (Below.refl _ _) (fun _ h => h.elim)) h1 h).mono ?_
  rintro e w' ⟨v1, v2, v3, rfl, hr1, ⟨rfl, rfl⟩, hr3, hb, _⟩
  obtain ⟨A3, c3, rfl⟩ := Kd.R_slice hr3
  obtain ⟨A4, c4, rfl⟩ := Kd.R_slice hr1
  exact ⟨rfl, A4, c4, A3, c3, rfl, (Kd.R_reads' hr1).2.1, (Kd.R_reads' hr3).2.1, Kd.R_mono hr1 (fun _ _ => trivial), Kd.R_mono hr3 (fun _ _ => trivial), hb⟩
def lvGo (ex : Int) (hs : List S88) (cs : List S101) : Nat → Int → Int → List Int → Option (List Int)
  | 0, _, _, _ => none
  | k + 1, all, bits, best => if bits < all then
      (contangoref11_Without.f 64 ex hs cs bits).bind fun t => (contangoref11_Shorter.f 64 t.2.2.2 best).bind fun sh =>
        if sh = true then (contangoref11_Has.f 64 t.1 t.2.1 t.2.2.1).bind fun has => lvGo ex hs cs k all (wrap64 (bits + 1)) (if has = true then t.2.2.2 else best)
        else lvGo ex hs cs k all (wrap64 (bits + 1)) best
    else some best
def allB (n : Nat) : Int := wrap64 (wrap64 (2 ^ min (IntKind.u64.wrap (n : Int)).toNat 64) - 1)
def contangoref11_Leave.f (a0_0 : Int) (l0_1 : List (S88)) (l0_2 : List (S101)) : Option (List Int) :=
  (contangoref11_Without.f 64 a0_0 l0_1 l0_2 (allB l0_1.length)).bind fun t => lvGo a0_0 l0_1 l0_2 1024 (allB l0_1.length) 0 t.2.2.2
set_option maxHeartbeats 2000000 in
set_option maxRecDepth 100000 in
theorem contangoref11_Leave.calls (a0_0 : Int) (A0_1 : Option Addr) (c0_1 : Nat) (l0_1 : List (S88)) (A0_2 : Option Addr) (c0_2 : Nat) (l0_2 : List (S101)) (r : List Int) (w : World) (hr0_1 : Kd.C k88 w A0_1 l0_1.length l0_1) (hc0_1 : l0_1.length ≤ c0_1) (hr0_2 : Kd.C k101 w A0_2 l0_2.length l0_2) (hc0_2 : l0_2.length ≤ c0_2) (h : contangoref11_Leave.f a0_0 l0_1 l0_2 = some r) :
    Calls Try.prog 41 #[.agg #[.int .i64 a0_0, .slice A0_1 l0_1.length c0_1, .slice A0_2 l0_2.length c0_2]] w fun e w' => ∃ v0_ : Value, e = .returned (v0_) ∧ Kd.R (Kd.int .i64) 3 w' w.heap.size (fun _ => True) v0_ r ∧ Below w.heap.size w w' := by
  have hu25 := Try.underlying25
  have M1 := Aside0.mk hr0_1
  have M2 := Aside0.mk hr0_2
  have C1 := Aside0.mk hc0_1
  have C2 := Aside0.mk hc0_2
  unfold contangoref11_Leave.f at h
  obtain ⟨t0, ht0, h⟩ := Option.bind_eq_some_iff.1 h
  have HT0 := Aside0.mk ht0
  have H0 := Aside0.mk h
  clear hr0_1 hr0_2 hc0_1 hc0_2 ht0 h
  obtain ⟨all, HALL⟩ : ∃ all, Aside0 (wrap64 (wrap64 (2 ^ min (IntKind.u64.wrap (l0_1.length : Int)).toNat 64) - 1) = all) := ⟨_, ⟨rfl⟩⟩
  have hall := HALL.out
  have HAL : Aside0 (all ≤ 9223372036854775807) := ⟨by rw [← HALL.out]; unfold wrap64; omega⟩
  unfold allB at HT0 H0
  rw [hall] at HT0 H0
  go_enter Try.func41, Try.ntmps41
  go_wp2_with fail
  have hb0 : Below w.heap.size w (w.alloc (.cells #[.int .i64 a0_0, .slice A0_1 l0_1.length c0_1, .slice A0_2 l0_2.length c0_2] 25)) := (Below.refl _ _).alloc (Nat.le_refl _) _
  have x0 : (w.alloc (.cells #[.int .i64 a0_0, .slice A0_1 l0_1.length c0_1, .slice A0_2 l0_2.length c0_2] 25)).cell? ⟨w.heap.size, 0, none⟩ = some (.int .i64 a0_0) := by simp
  have x1 : (w.alloc (.cells #[.int .i64 a0_0, .slice A0_1 l0_1.length c0_1, .slice A0_2 l0_2.length c0_2] 25)).cell? ⟨w.heap.size, 1, none⟩ = some (.slice A0_1 l0_1.length c0_1) := by simp
  have x2 : (w.alloc (.cells #[.int .i64 a0_0, .slice A0_1 l0_1.length c0_1, .slice A0_2 l0_2.length c0_2] 25)).cell? ⟨w.heap.size, 2, none⟩ = some (.slice A0_2 l0_2.length c0_2) := by simp
  have hs0 : w.heap.size < (w.alloc (.cells #[.int .i64 a0_0, .slice A0_1 l0_1.length c0_1, .slice A0_2 l0_2.length c0_2] 25)).heap.size := by simp
  have HB0 := Aside0.mk hb0
  clear hb0
  generalize w.alloc (.cells #[.int .i64 a0_0, .slice A0_1 l0_1.length c0_1, .slice A0_2 l0_2.length c0_2] 25) = W0 at *
  obtain ⟨bm, HBM⟩ : ∃ bm, Aside0 (w.heap.size = bm) := ⟨_, ⟨rfl⟩⟩
  rw [HBM.out] at x0 x1 x2 hs0
  rw [HBM.out]
  refine (wo57 64 a0_0 A0_1 c0_1 l0_1 A0_2 c0_2 l0_2 all t0 W0 (Kd.C_below M1.out HB0.out) C1.out HT0.out).mono ?_
  rintro e w1 ⟨et0, A4, c4, A3, c3, rfl, hc4, hc3, hr1, hr3, hb1⟩
  have HB1 := Aside0.mk (HB0.out.trans (hb1.mono HB0.out.size))
  have HX1 : Aside0 (_ ∧ _ ∧ _ ∧ _) := ⟨pw_cell_below hb1 x0, pw_cell_below hb1 x1, pw_cell_below hb1 x2, Nat.lt_of_lt_of_le hs0 hb1.size⟩
  have HR3 := Aside0.mk (Kd.R_lower hr3 HB0.out.size)
  have hc3' := Aside0.mk hc3
  clear hb1 x0 x1 x2 hs0 hr1 hr3 HB0 hc3 et0 HT0
  go_wp2_with fail
  go_loopw [5, 6] (fun v5 v6 wr => ∃ (q : Nat) (bits : Int) (best : List Int) (A : Option Addr) (c : Nat), v6 = .int .i64 bits ∧ v5 = .slice A best.length c ∧ q ≤ 1024 ∧ 0 ≤ bits ∧ Aside0 (lvGo a0_0 l0_1 l0_2 (1024 - q) all bits best = some r) ∧ Aside0 (best.length ≤ c) ∧ Aside0 (Kd.R (Kd.int .i64) 3 wr w.heap.size (fun _ => True) (.slice A best.length c) best) ∧
      Aside0 (Below w.heap.size w wr) ∧ Aside0 (wr.cell? ⟨bm, 0, none⟩ = some (.int .i64 a0_0) ∧ wr.cell? ⟨bm, 1, none⟩ = some (.slice A0_1 l0_1.length c0_1) ∧ wr.cell? ⟨bm, 2, none⟩ = some (.slice A0_2 l0_2.length c0_2) ∧ bm < wr.heap.size))
    (fun _ v6 _ => (all - intOf v6).toNat)
  case atStart =>
    have hx := HX1.out
    exact ⟨0, 0, t0.2.2.2, A3, c3, rfl, rfl, by omega, by omega, H0, hc3', ⟨by apply Kd.R_alloc; exact HR3.out⟩, ⟨HB1.out.alloc HB1.out.size _⟩, ⟨by rw [World.cell?_alloc_past _ _ _ hx.2.2.2]; exact hx.1, by rw [World.cell?_alloc_past _ _ _ hx.2.2.2]; exact hx.2.1, by rw [World.cell?_alloc_past _ _ _ hx.2.2.2]; exact hx.2.2.1, by simp; omega⟩⟩
  case round =>
    obtain ⟨q, bits, best, A, c, rfl, rfl, hq, hbits, HL, HC, HR, HB, HX⟩ := hrel
    have hl := HL.out
    obtain ⟨p, hp⟩ : ∃ p, 1024 - q = p := ⟨_, rfl⟩
    rw [hp] at hl
    cases p with
    | zero => simp [lvGo] at hl
    | succ p =>
      rw [lvGo] at hl
      by_cases hlt : bits < all
      · rw [if_pos hlt] at hl
        obtain ⟨t, ht, hl⟩ := Option.bind_eq_some_iff.1 hl
        obtain ⟨sh, hsh, hl⟩ := Option.bind_eq_some_iff.1 hl
        have HT := Aside0.mk ht
        have HSH := Aside0.mk hsh
        have HL2 := Aside0.mk hl
        obtain ⟨x0, x1, x2, hbm⟩ := HX.out
        have hq2 : 1024 - (q + 1) = p := by omega
        have hq3 : q + 1 ≤ 1024 := by omega
        have HQ := Aside0.mk hq2
        have ewb : wrap64 (bits + 1) = bits + 1 := by have := HAL.out; unfold wrap64; omega
        have hbn : 0 ≤ wrap64 (bits + 1) := by rw [ewb]; omega
        have EWB := Aside0.mk ewb
        clear ewb
        clear hl ht hsh HL hp hq hq2
        go_wp2_with fail
        refine (wo57 64 a0_0 A0_1 c0_1 l0_1 A0_2 c0_2 l0_2 bits t wr (Kd.C_below M1.out HB.out) C1.out HT.out).mono ?_
        rintro e w2 ⟨et, A5, c5, A6, c6, rfl, hc5, hc6, hr5, hr6, hb2⟩
        have HB2 := Aside0.mk (HB.out.trans (hb2.mono HB.out.size))
        have HX2 : Aside0 (_ ∧ _ ∧ _ ∧ _) := ⟨pw_cell_below hb2 x0, pw_cell_below hb2 x1, pw_cell_below hb2 x2, Nat.lt_of_lt_of_le hbm hb2.size⟩
        have HR5 := Aside0.mk (Kd.R_lower hr5 HB.out.size)
        have HR6 := Aside0.mk (Kd.R_lower hr6 HB.out.size)
        have HRb := Aside0.mk (Kd.R_below HR.out hb2)
        have HC5 := Aside0.mk hc5
        have HC6 := Aside0.mk hc6
        have HET := Aside0.mk et
        clear hb2 x0 x1 x2 hbm hr5 hr6 HB HR HX hc5 hc6 et
        go_wp2_with fail
        obtain ⟨W3, HW3⟩ : ∃ W3, Aside0 (w2.alloc (.cells #[.int .i64 t.1, .slice A5 t.2.1.length c5, .slice A0_2 l0_2.length c0_2] 25) = W3) := ⟨_, ⟨rfl⟩⟩
        have hb3 : Below w2.heap.size w2 W3 := by rw [← HW3.out]; exact (Below.refl _ _).alloc (Nat.le_refl _) _
        have y0 : W3.cell? ⟨w2.heap.size, 0, none⟩ = some (.int .i64 t.1) := by rw [← HW3.out]; simp
        have y1 : W3.cell? ⟨w2.heap.size, 1, none⟩ = some (.slice A5 t.2.1.length c5) := by rw [← HW3.out]; simp
        have y2 : W3.cell? ⟨w2.heap.size, 2, none⟩ = some (.slice A0_2 l0_2.length c0_2) := by rw [← HW3.out]; simp
        have HB3 := Aside0.mk (HB2.out.trans (hb3.mono HB2.out.size))
        have HX3 : Aside0 (_ ∧ _ ∧ _ ∧ _) := ⟨pw_cell_below hb3 HX2.out.1, pw_cell_below hb3 HX2.out.2.1, pw_cell_below hb3 HX2.out.2.2.1, Nat.lt_of_lt_of_le HX2.out.2.2.2 hb3.size⟩
        have HR5' := Aside0.mk (Kd.R_below HR5.out hb3)
        have HR6' := Aside0.mk (Kd.R_below HR6.out hb3)
        have HRb' := Aside0.mk (Kd.R_below HRb.out hb3)
        rw [HW3.out]
        clear hb3 HR5 HR6 HRb HB2 HX2 HW3
        obtain ⟨bx, HBX⟩ : ∃ bx, Aside0 (w2.heap.size = bx) := ⟨_, ⟨rfl⟩⟩
        rw [HBX.out] at y0 y1 y2
        rw [HBX.out]
        refine (contangoref11_Shorter.calls 64 A6 c6 t.2.2.2 A c best sh W3 (Kd.R_reads' HR6'.out).2.2 HC6.out (Kd.R_reads' HRb'.out).2.2 HC.out HSH.out).mono ?_
        rintro e w4 ⟨rfl, hd⟩
        have hb4 := hd.below
        have z0 := pw_cell_below hb4 y0
        have z1 := pw_cell_below hb4 y1
        have z2 := pw_cell_below hb4 y2
        have HB4 := Aside0.mk (HB3.out.trans (hb4.mono HB3.out.size))
        have HX4 : Aside0 (_ ∧ _ ∧ _ ∧ _) := ⟨pw_cell_below hb4 HX3.out.1, pw_cell_below hb4 HX3.out.2.1, pw_cell_below hb4 HX3.out.2.2.1, Nat.lt_of_lt_of_le HX3.out.2.2.2 hb4.size⟩
        have HR5 := Aside0.mk (Kd.R_below HR5'.out hb4)
        have HR6 := Aside0.mk (Kd.R_below HR6'.out hb4)
        have HRb := Aside0.mk (Kd.R_below HRb'.out hb4)
        clear hd hb4 y0 y1 y2 HR5' HR6' HRb' HB3 HX3
        cases sh with
        | false =>
          have hl := HL2.out
          rw [if_neg (by simp)] at hl
          have HL3 := Aside0.mk hl
          clear hl
          go_wp2_with fail
          go_roundw
          case rel => exact ⟨q + 1, wrap64 (bits + 1), best, A, c, by go_num, rfl, hq3, hbn, ⟨by rw [HQ.out]; exact HL3.out⟩, HC, HRb, HB4, HX4⟩
          case measure => have := EWB.out; simp [intOf, this]; omega
        | true =>
          have hl := HL2.out
          rw [if_pos rfl] at hl
          obtain ⟨has, hhas, hl⟩ := Option.bind_eq_some_iff.1 hl
          have HL3 := Aside0.mk hl
          rw [HET.out] at hhas
          have HH := Aside0.mk hhas
          clear hl hhas
          go_wp2_with fail
          refine (contangoref11_Has.calls 64 t.1 A5 c5 t.2.1 A0_2 c0_2 l0_2 has w4 (Kd.R_reads' HR5.out).2.2 HC5.out (Kd.C_below M2.out HB4.out) C2.out HH.out).mono ?_
          rintro e w5 ⟨rfl, hb5⟩
          have HB5 := Aside0.mk (HB4.out.trans (hb5.mono HB4.out.size))
          have HX5 : Aside0 (_ ∧ _ ∧ _ ∧ _) := ⟨pw_cell_below hb5 HX4.out.1, pw_cell_below hb5 HX4.out.2.1, pw_cell_below hb5 HX4.out.2.2.1, Nat.lt_of_lt_of_le HX4.out.2.2.2 hb5.size⟩
          have HR6' := Aside0.mk (Kd.R_below HR6.out hb5)
          have HRb' := Aside0.mk (Kd.R_below HRb.out hb5)
          clear hb5 HR5 HR6 HRb HB4 HX4
          cases has with
          | false =>
            go_wp2_with fail
            go_roundw
            case rel => exact ⟨q + 1, wrap64 (bits + 1), best, A, c, by go_num, rfl, hq3, hbn, ⟨by rw [HQ.out]; exact HL3.out⟩, HC, HRb', HB5, HX5⟩
            case measure => have := EWB.out; simp [intOf, this]; omega
          | true =>
            go_wp2_with fail
            go_roundw
            case rel => exact ⟨q + 1, wrap64 (bits + 1), t.2.2.2, A6, c6, by go_num, rfl, hq3, hbn, ⟨by rw [HQ.out]; exact HL3.out⟩, HC6, HR6', HB5, HX5⟩
            case measure => have := EWB.out; simp [intOf, this]; omega
      · rw [if_neg hlt] at hl
        injection hl with hl
        subst hl
        go_wp2_with fail
        go_ret
        exact ⟨_, rfl, HR.out, HB.out⟩
end Go.Proofs.Ytgjifkegfbpjkaa.Q
end
