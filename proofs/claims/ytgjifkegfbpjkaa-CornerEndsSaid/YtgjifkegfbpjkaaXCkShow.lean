/- Walks: Show of package corner. -/
import Derived.Test.YtgjifkegfbpjkaaXCkTruth
import Derived.Test.YtgjifkegfbpjkaaXQf76
import Derived.Laws.EntriesVeiled
section
namespace Go.Proofs.Ytgjifkegfbpjkaa.Q
set_option linter.unusedVariables false
open Go.RowKit Go.Maps Go.Proofs.YtgjifkegfbpjkaaW.PrintWords Go.Proofs.YtgjifkegfbpjkaaW.PrintLast Go.Proofs.YtgjifkegfbpjkaaW.PrintMore
def corner_Show.f (a0_0 : Int) (l0_1 : List (S73)) (l0_2 : List (S75)) (a1 : Bool) : Option (List Int × Int) :=
  (corner_Market_asked.f a0_0 l0_1 l0_2).bind fun t => some (if t.2.2 = 0 then (trL a1 l0_2 l0_1 0 a0_0, 0) else ([], t.2.2))
theorem asked_ck {a0_0 : Int} {l0_1 : List (S73)} {l0_2 : List (S75)} {x y : Int} (h : corner_Market_asked.f a0_0 l0_1 l0_2 = some (x, y, 0)) : ck a0_0 l0_1 l0_2 = 0 := by
  unfold corner_Market_asked.f corner_CheckMarket.f at h
  rw [Option.bind_some] at h
  split at h
  · assumption
  · injection h with h; injection h with _ h; injection h
set_option maxHeartbeats 2000000 in
set_option maxRecDepth 100000 in
theorem corner_Show.calls (a0_0 : Int) (A0_1 : Option Addr) (c0_1 : Nat) (l0_1 : List (S73)) (A0_2 : Option Addr) (c0_2 : Nat) (l0_2 : List (S75)) (a1 : Bool) (r1 : List Int) (r2 : Int) (w : World) (hr0_1 : Kd.C k73 w A0_1 l0_1.length l0_1) (hc0_1 : l0_1.length ≤ c0_1) (hr0_2 : Kd.C k75 w A0_2 l0_2.length l0_2) (hc0_2 : l0_2.length ≤ c0_2) (h : corner_Show.f a0_0 l0_1 l0_2 a1 = some (r1, r2)) :
    Calls Try.prog 31 #[.agg #[.int .i64 a0_0, .slice A0_1 l0_1.length c0_1, .slice A0_2 l0_2.length c0_2], .bool a1] w fun e w' => ∃ v0_ : Value, e = .returned (.tuple #[v0_, .int .i64 r2]) ∧ Kd.R (Kd.int .i64) 3 w' w.heap.size (fun _ => True) v0_ r1 ∧ Below w.heap.size w w' := by
  have hu35 := Try.underlying35
  have hu46 := Try.underlying46
  have hu129 := Try.underlying129
  have M1 := Aside0.mk hr0_1
  have M2 := Aside0.mk hr0_2
  have C1 := Aside0.mk hc0_1
  have C2 := Aside0.mk hc0_2
  unfold corner_Show.f at h
  obtain ⟨⟨x, y, er⟩, ha, h⟩ := Option.bind_eq_some_iff.1 h
  have HA := Aside0.mk ha
  injection h with h
  replace h := Aside0.mk h
  clear hr0_1 hr0_2 hc0_1 hc0_2 ha
  go_enter Try.func31, Try.ntmps31
  go_wp2_with fail
  have hb0 : Below w.heap.size w (w.alloc (.cells #[.int .i64 a0_0, .slice A0_1 l0_1.length c0_1, .slice A0_2 l0_2.length c0_2] 35)) := (Below.refl _ _).alloc (Nat.le_refl _) _
  refine (corner_Market_asked.calls a0_0 A0_1 c0_1 l0_1 A0_2 c0_2 l0_2 x y er _ (Kd.C_below M1.out hb0) C1.out (Kd.C_below M2.out hb0) C2.out HA.out).mono ?_
  rintro e w1 ⟨rfl, hb1⟩
  have x0 := pw_cell_below hb1 (show (w.alloc (.cells #[.int .i64 a0_0, .slice A0_1 l0_1.length c0_1, .slice A0_2 l0_2.length c0_2] 35)).cell? ⟨w.heap.size, 0, none⟩ = some (.int .i64 a0_0) by simp)
  have x1 := pw_cell_below hb1 (show (w.alloc (.cells #[.int .i64 a0_0, .slice A0_1 l0_1.length c0_1, .slice A0_2 l0_2.length c0_2] 35)).cell? ⟨w.heap.size, 1, none⟩ = some (.slice A0_1 l0_1.length c0_1) by simp)
  have x2 := pw_cell_below hb1 (show (w.alloc (.cells #[.int .i64 a0_0, .slice A0_1 l0_1.length c0_1, .slice A0_2 l0_2.length c0_2] 35)).cell? ⟨w.heap.size, 2, none⟩ = some (.slice A0_2 l0_2.length c0_2) by simp)
  have HB1 := Aside0.mk (hb0.trans (hb1.mono (by simp)))
  have hs1 : w.heap.size < w1.heap.size := by have := hb1.size; simp at this; omega
  clear hb0 hb1
  by_cases he : er = 0
  · subst he
    have HC := Aside0.mk (asked_ck HA.out)
    have h2 := h.out
    rw [if_pos rfl] at h2
    injection h2 with e1 e2
    subst e1 e2
    clear h
    have HZ := Aside0.mk (ck_zero HC.out)
    cases a1 with
    | false =>
      have d0 : ((w1.alloc (.cells #[.int .i64 x, .int .i64 y] 46)).alloc (.cells #[.func (.func 77) #[] #[]] 129)).cell? ⟨w.heap.size, 0, none⟩ = some (.int .i64 a0_0) := by rw [World.cell?_alloc_past _ _ _ (by simp; omega), World.cell?_alloc_past _ _ _ (by simpa using hs1)]; exact x0
      have d1 : ((w1.alloc (.cells #[.int .i64 x, .int .i64 y] 46)).alloc (.cells #[.func (.func 77) #[] #[]] 129)).cell? ⟨w.heap.size, 1, none⟩ = some (.slice A0_1 l0_1.length c0_1) := by rw [World.cell?_alloc_past _ _ _ (by simp; omega), World.cell?_alloc_past _ _ _ (by simpa using hs1)]; exact x1
      have d2 : ((w1.alloc (.cells #[.int .i64 x, .int .i64 y] 46)).alloc (.cells #[.func (.func 77) #[] #[]] 129)).cell? ⟨w.heap.size, 2, none⟩ = some (.slice A0_2 l0_2.length c0_2) := by rw [World.cell?_alloc_past _ _ _ (by simp; omega), World.cell?_alloc_past _ _ _ (by simpa using hs1)]; exact x2
      have HBW := Aside0.mk (HB1.out.trans (((Below.refl w1.heap.size w1).alloc (Nat.le_refl _) (.cells #[.int .i64 x, .int .i64 y] 46)).alloc (by simp) (.cells #[.func (.func 77) #[] #[]] 129) |>.mono HB1.out.size))
      go_wp2_with fail
      refine (work_calls a0_0 A0_1 c0_1 l0_1 A0_2 c0_2 l0_2 false 77 rfl _ (Kd.C_below M2.out HBW.out) (ck_okCs HC.out)).mono ?_
      rintro e w4 ⟨g, b, rfl, hk, hm, hx⟩
      have HB4 := Aside0.mk (HBW.out.trans (hk.bel.mono HBW.out.size))
      have HK4 := Aside0.mk hk
      have HM4 := Aside0.mk (hm (fun i left => lst false l0_2 (l0_1.drop i.toNat) i left))
      have HX4 := Aside0.mk hx
      clear hk hm hx
      go_wp2_with fail
      refine (truth_calls _ g b a0_0 A0_1 c0_1 l0_1 l0_2 false (Kd.C_below M1.out HBW.out) HZ.out.2.2.2.2.2.1 HZ.out.2.1 (ck_okCs HC.out) ⟨HZ.out.2.2.2.1, HZ.out.2.2.2.2.1⟩ w4 HK4.out HM4.out HX4.out).mono ?_
      rintro e w5 ⟨v, rfl, ho, hg⟩
      have HB5 := Aside0.mk (HB4.out.grown hg HB4.out.size (fun k hk => by injection hk with hk; have h1 := HK4.out.b0; have h2 := HBW.out.size; omega))
      have HO5 := Aside0.mk ho
      clear ho hg
      go_wp2_with fail
      go_ret2
      exact ⟨_, rfl, R_nums HO5.out HB4.out.size, HB5.out⟩
    | true =>
      have d0 : ((w1.alloc (.cells #[.int .i64 x, .int .i64 y] 46)).alloc (.cells #[.func (.func 78) #[] #[]] 129)).cell? ⟨w.heap.size, 0, none⟩ = some (.int .i64 a0_0) := by rw [World.cell?_alloc_past _ _ _ (by simp; omega), World.cell?_alloc_past _ _ _ (by simpa using hs1)]; exact x0
      have d1 : ((w1.alloc (.cells #[.int .i64 x, .int .i64 y] 46)).alloc (.cells #[.func (.func 78) #[] #[]] 129)).cell? ⟨w.heap.size, 1, none⟩ = some (.slice A0_1 l0_1.length c0_1) := by rw [World.cell?_alloc_past _ _ _ (by simp; omega), World.cell?_alloc_past _ _ _ (by simpa using hs1)]; exact x1
      have d2 : ((w1.alloc (.cells #[.int .i64 x, .int .i64 y] 46)).alloc (.cells #[.func (.func 78) #[] #[]] 129)).cell? ⟨w.heap.size, 2, none⟩ = some (.slice A0_2 l0_2.length c0_2) := by rw [World.cell?_alloc_past _ _ _ (by simp; omega), World.cell?_alloc_past _ _ _ (by simpa using hs1)]; exact x2
      have HBW := Aside0.mk (HB1.out.trans (((Below.refl w1.heap.size w1).alloc (Nat.le_refl _) (.cells #[.int .i64 x, .int .i64 y] 46)).alloc (by simp) (.cells #[.func (.func 78) #[] #[]] 129) |>.mono HB1.out.size))
      go_wp2_with fail
      refine (work_calls a0_0 A0_1 c0_1 l0_1 A0_2 c0_2 l0_2 true 78 rfl _ (Kd.C_below M2.out HBW.out) (ck_okCs HC.out)).mono ?_
      rintro e w4 ⟨g, b, rfl, hk, hm, hx⟩
      have HB4 := Aside0.mk (HBW.out.trans (hk.bel.mono HBW.out.size))
      have HK4 := Aside0.mk hk
      have HM4 := Aside0.mk (hm (fun i left => lst true l0_2 (l0_1.drop i.toNat) i left))
      have HX4 := Aside0.mk hx
      clear hk hm hx
      go_wp2_with fail
      refine (truth_calls _ g b a0_0 A0_1 c0_1 l0_1 l0_2 true (Kd.C_below M1.out HBW.out) HZ.out.2.2.2.2.2.1 HZ.out.2.1 (ck_okCs HC.out) ⟨HZ.out.2.2.2.1, HZ.out.2.2.2.2.1⟩ w4 HK4.out HM4.out HX4.out).mono ?_
      rintro e w5 ⟨v, rfl, ho, hg⟩
      have HB5 := Aside0.mk (HB4.out.grown hg HB4.out.size (fun k hk => by injection hk with hk; have h1 := HK4.out.b0; have h2 := HBW.out.size; omega))
      have HO5 := Aside0.mk ho
      clear ho hg
      go_wp2_with fail
      go_ret2
      exact ⟨_, rfl, R_nums HO5.out HB4.out.size, HB5.out⟩
  · have hne : (er != 0) = true := bne_iff_ne.mpr he
    have h2 := h.out
    rw [if_neg he] at h2
    injection h2 with e1 e2
    subst e1 e2
    clear h he
    go_wp2_with fail
    go_ret2
    exact ⟨_, rfl, Kd.R_of_own (own_nil _ _ _ _) (fun _ _ => trivial), HB1.out.alloc HB1.out.size _⟩
end Go.Proofs.Ytgjifkegfbpjkaa.Q
end
