/- Walks: Corner of package corner. -/
import Derived.Test.YtgjifkegfbpjkaaXCkAdd
import Derived.Test.YtgjifkegfbpjkaaXCkShow
import Derived.WalkMore
section
namespace Go.Proofs.Ytgjifkegfbpjkaa.Q
set_option linter.unusedVariables false
open Go.RowKit Go.Maps Go.Proofs.YtgjifkegfbpjkaaW.PrintWords Go.Proofs.YtgjifkegfbpjkaaW.PrintLast Go.Proofs.YtgjifkegfbpjkaaW.PrintMore
def crnFrom (ex : Int) (hs : List S73) (cs : List S75) (k : Nat) : Option (List Int) := (List.range' k (hs.length + 1 - k)).findSome? fun m => crn ex hs cs m [] 0
theorem crnFrom_step (ex : Int) (hs : List S73) (cs : List S75) (k : Nat) (h : k < hs.length + 1) : crnFrom ex hs cs k = (crn ex hs cs k [] 0).or (crnFrom ex hs cs (k + 1)) := by
  unfold crnFrom
  rw [show hs.length + 1 - k = (hs.length + 1 - (k + 1)) + 1 from by omega, List.range'_succ, List.findSome?_cons]
  cases crn ex hs cs k [] 0 <;> rfl
theorem crnFrom_end (ex : Int) (hs : List S73) (cs : List S75) : crnFrom ex hs cs (hs.length + 1) = none := by
  unfold crnFrom; rw [Nat.sub_self]; rfl
def corner_Corner.f (a0_0 : Int) (l0_1 : List (S73)) (l0_2 : List (S75)) : Option (List Int × Int) :=
  (corner_Market_asked.f a0_0 l0_1 l0_2).bind fun t => some (if t.2.2 = 0 then (match crnFrom a0_0 l0_1 l0_2 0 with | some l => (l, 0) | none => ([], 7)) else ([], t.2.2))
set_option maxHeartbeats 2000000 in
set_option maxRecDepth 100000 in
theorem corner_Corner.calls (a0_0 : Int) (A0_1 : Option Addr) (c0_1 : Nat) (l0_1 : List (S73)) (A0_2 : Option Addr) (c0_2 : Nat) (l0_2 : List (S75)) (r1 : List Int) (r2 : Int) (w : World) (hr0_1 : Kd.C k73 w A0_1 l0_1.length l0_1) (hc0_1 : l0_1.length ≤ c0_1) (hr0_2 : Kd.C k75 w A0_2 l0_2.length l0_2) (hc0_2 : l0_2.length ≤ c0_2) (h : corner_Corner.f a0_0 l0_1 l0_2 = some (r1, r2)) :
    Calls Try.prog 36 #[.agg #[.int .i64 a0_0, .slice A0_1 l0_1.length c0_1, .slice A0_2 l0_2.length c0_2]] w fun e w' => ∃ v0_ : Value, e = .returned (.tuple #[v0_, .int .i64 r2]) ∧ Kd.R (Kd.int .i64) 3 w' w.heap.size (fun _ => True) v0_ r1 ∧ Below w.heap.size w w' := by
  have hu35 := Try.underlying35
  have hu46 := Try.underlying46
  have M1 := Aside0.mk hr0_1
  have M2 := Aside0.mk hr0_2
  have C1 := Aside0.mk hc0_1
  have C2 := Aside0.mk hc0_2
  unfold corner_Corner.f at h
  obtain ⟨⟨x, y, er⟩, ha, h⟩ := Option.bind_eq_some_iff.1 h
  have HA := Aside0.mk ha
  injection h with h
  replace h := Aside0.mk h
  clear hr0_1 hr0_2 hc0_1 hc0_2 ha
  go_enter Try.func36, Try.ntmps36
  go_wp2_with fail
  go_step3
  go_wp2_with fail
  have hb0 : Below w.heap.size w (w.alloc (.cells #[.int .i64 a0_0, .slice A0_1 l0_1.length c0_1, .slice A0_2 l0_2.length c0_2] 35)) := (Below.refl _ _).alloc (Nat.le_refl _) _
  refine (corner_Market_asked.calls a0_0 A0_1 c0_1 l0_1 A0_2 c0_2 l0_2 x y er _ (Kd.C_below M1.out hb0) C1.out (Kd.C_below M2.out hb0) C2.out HA.out).mono ?_
  rintro e w1 ⟨rfl, hb1⟩
  have x0 := pw_cell_below hb1 (show (w.alloc (.cells #[.int .i64 a0_0, .slice A0_1 l0_1.length c0_1, .slice A0_2 l0_2.length c0_2] 35)).cell? ⟨w.heap.size, 0, none⟩ = some (.int .i64 a0_0) by simp)
  have x1 := pw_cell_below hb1 (show (w.alloc (.cells #[.int .i64 a0_0, .slice A0_1 l0_1.length c0_1, .slice A0_2 l0_2.length c0_2] 35)).cell? ⟨w.heap.size, 1, none⟩ = some (.slice A0_1 l0_1.length c0_1) by simp)
  have x2 := pw_cell_below hb1 (show (w.alloc (.cells #[.int .i64 a0_0, .slice A0_1 l0_1.length c0_1, .slice A0_2 l0_2.length c0_2] 35)).cell? ⟨w.heap.size, 2, none⟩ = some (.slice A0_2 l0_2.length c0_2) by simp)
  have HB1 := Aside0.mk (hb0.trans (hb1.mono (by simp)))
  have hs1 : w.heap.size < w1.heap.size := by have := hb1.size; simp at this; omega
  clear hb0 hb1
  by_cases he : er = 0
  · subst he
    have HC := Aside0.mk (asked_ck HA.out)
    have h2 := h.out
    rw [if_pos rfl] at h2
    replace h2 := Aside0.mk h2
    have HZ := Aside0.mk (ck_zero HC.out)
    obtain ⟨bm, HBM⟩ : ∃ bm, Aside0 (w.heap.size = bm) := ⟨_, ⟨rfl⟩⟩
    rw [HBM.out] at x0 x1 x2 hs1
    rw [HBM.out]
    go_wp2_with fail
    have hbw : Below w.heap.size w (((w1.alloc (.cells #[.int .i64 x, .int .i64 y] 46)).alloc (.cells #[.slice none 0 0] 26)).alloc (.cells #[.func (.func 83) #[] #[.pointer (some ⟨w1.heap.size + 1, 0, none⟩), .pointer (some ⟨bm, 0, none⟩), .pointer (some ⟨w1.heap.size + 1 + 1, 0, none⟩)]] 135)) := ((HB1.out.alloc HB1.out.size _).alloc (by have := HB1.out.size; simp; omega) _).alloc (by have := HB1.out.size; simp; omega) _
    have HCc : Aside0 (Cc w 83 (w1.heap.size + 1) bm (w1.heap.size + 1 + 1) a0_0 A0_1 c0_1 l0_1 A0_2 c0_2 l0_2 (((w1.alloc (.cells #[.int .i64 x, .int .i64 y] 46)).alloc (.cells #[.slice none 0 0] 26)).alloc (.cells #[.func (.func 83) #[] #[.pointer (some ⟨w1.heap.size + 1, 0, none⟩), .pointer (some ⟨bm, 0, none⟩), .pointer (some ⟨w1.heap.size + 1 + 1, 0, none⟩)]] 135))) := by
      refine ⟨⟨?_, ?_, ?_, (World.cell?_alloc_at _ _ _ _ (by simp)).trans rfl, ⟨none, 0, 0, ?_⟩, ?_, hbw, by have := HB1.out.size; omega, by omega, by omega⟩⟩
      · rw [World.cell?_alloc_past _ _ _ (by simp; omega), World.cell?_alloc_past _ _ _ (by simp; omega), World.cell?_alloc_past _ _ _ (by simpa using hs1)]; exact x0
      · rw [World.cell?_alloc_past _ _ _ (by simp; omega), World.cell?_alloc_past _ _ _ (by simp; omega), World.cell?_alloc_past _ _ _ (by simpa using hs1)]; exact x1
      · rw [World.cell?_alloc_past _ _ _ (by simp; omega), World.cell?_alloc_past _ _ _ (by simp; omega), World.cell?_alloc_past _ _ _ (by simpa using hs1)]; exact x2
      · rw [World.cell?_alloc_past _ _ _ (by simp)]; simp
      · rw [World.frozen?_alloc_past _ _ _ (by simp)]; simp
    have hsz : w1.heap.size + 1 + 1 < (((w1.alloc (.cells #[.int .i64 x, .int .i64 y] 46)).alloc (.cells #[.slice none 0 0] 26)).alloc (.cells #[.func (.func 83) #[] #[.pointer (some ⟨w1.heap.size + 1, 0, none⟩), .pointer (some ⟨bm, 0, none⟩), .pointer (some ⟨w1.heap.size + 1 + 1, 0, none⟩)]] 135)).heap.size := by simp
    clear x0 x1 x2 hbw
    generalize (((w1.alloc (.cells #[.int .i64 x, .int .i64 y] 46)).alloc (.cells #[.slice none 0 0] 26)).alloc (.cells #[.func (.func 83) #[] #[.pointer (some ⟨w1.heap.size + 1, 0, none⟩), .pointer (some ⟨bm, 0, none⟩), .pointer (some ⟨w1.heap.size + 1 + 1, 0, none⟩)]] 135)) = W at *
    have hbf : w.heap.size ≤ w1.heap.size + 1 := by have := HB1.out.size; omega
    obtain ⟨bf, HBF⟩ : ∃ bf, Aside0 (w1.heap.size + 1 = bf) := ⟨_, ⟨rfl⟩⟩
    rw [HBF.out] at HCc hsz hbf
    rw [HBF.out]
    clear hs1
    have m1 := HCc.out.m1
    have hn6 : l0_1.length ≤ 6 := HZ.out.2.1
    have hn0 : 0 < l0_1.length := HZ.out.1
    have ewn : IntKind.i64.wrap ((l0_1.length : Int) + 1) = (l0_1.length : Int) + 1 := wrap_in (by omega) (by omega)
    have ewn2 : wrap64 ((l0_1.length : Int) + 1) = (l0_1.length : Int) + 1 := (i64_w _).symm.trans ewn
    go_step3
    go_wp2_with fail
    have hb0 : Aside0 (Below w.heap.size w W) := ⟨HCc.out.bel⟩
    go_loopw [8, 23] (fun v8 v23 wr => v8 = .bool false ∧ ∃ k : Nat, v23 = .int .i64 k ∧ k ≤ l0_1.length + 1 ∧ Aside0 (Cc w 83 bf bm (bf + 1) a0_0 A0_1 c0_1 l0_1 A0_2 c0_2 l0_2 wr) ∧ Aside0 (bf + 2 ≤ wr.heap.size) ∧ Aside0 (crnFrom a0_0 l0_1 l0_2 k = crnFrom a0_0 l0_1 l0_2 0))
      (fun _ v23 _ => l0_1.length + 1 - (intOf v23).toNat)
    case atStart => exact ⟨rfl, 0, rfl, Nat.zero_le _, HCc, ⟨by omega⟩, ⟨rfl⟩⟩
    case round =>
      obtain ⟨rfl, k, rfl, hk, HCr, HSr, HK⟩ := hrel
      by_cases hlt : k < l0_1.length + 1
      · have hlt' : (k : Int) < (l0_1.length : Int) + 1 := by omega
        have mca := HCr.out.ca
        obtain ⟨R, HR⟩ : ∃ R, Aside0 (crn a0_0 l0_1 l0_2 k [] 0 = R) := ⟨_, ⟨rfl⟩⟩
        have hst := crnFrom_step a0_0 l0_1 l0_2 k hlt
        rw [HR.out, HK.out] at hst
        have HST := Aside0.mk hst
        clear hst
        have hadd := add_calls w bf bm (bf + 1) a0_0 A0_1 c0_1 l0_1 A0_2 c0_2 l0_2 M1 M2 ⟨ck_okCs HC.out⟩ ⟨HZ.out.2.2.2.2.2.1⟩ hn6 hn0 ⟨HZ.out.2.2.2.1, HZ.out.2.2.2.2.1⟩ (bf + 2) (by omega) k [] 0 0 k (.slice none 0 0) wr rfl rfl (by simp) (by simp; omega) (Nat.zero_le _) HSr.out (own_nil _ _ _ _) HCr.out
        rw [HR.out] at hadd
        have HADD := Aside0.mk hadd
        clear hadd
        cases R with
        | none =>
          go_wp2_with fail
          refine HADD.out.mono ?_
          rintro e w4 ⟨rfl, hg4, hc4, hf4⟩
          have HG4 := Aside0.mk hg4
          have HC4 := Aside0.mk hc4
          clear hg4 hc4 hf4
          simp only [Option.isSome_none]
          go_wp2_with fail
          go_roundw
          case rel => exact ⟨rfl, k + 1, by go_num, by omega, HC4, ⟨Nat.le_trans HSr.out HG4.out.size⟩, ⟨HST.out.symm⟩⟩
          case measure => simp [intOf]; omega
        | some l =>
          go_wp2_with fail
          refine HADD.out.mono ?_
          rintro e w4 ⟨rfl, hg4, hc4, hf4⟩
          obtain ⟨v', hv', ho'⟩ := hf4 l rfl
          have HC4 := Aside0.mk hc4
          have HO4 := Aside0.mk ho'
          clear hg4 hc4 hf4 ho'
          simp only [Option.isSome_some]
          go_wp2_with fail
          rw [Exit.noGoto_ret]
          go_ret2
          have h3 := h2.out
          rw [HST.out] at h3
          injection h3 with e1 e2
          subst e1 e2
          exact ⟨_, rfl, R_nums HO4.out (by have := HBM.out; omega), HBM.out ▸ HC4.out.bel⟩
      · obtain rfl : k = l0_1.length + 1 := by omega
        go_wp2_with fail
        rw [Exit.noGoto_ret]
        go_ret2
        have h3 := h2.out
        rw [← HK.out, crnFrom_end] at h3
        injection h3 with e1 e2
        subst e1 e2
        exact ⟨_, rfl, Kd.R_of_own (own_nil _ _ _ _) (fun _ _ => trivial), HBM.out ▸ HCr.out.bel⟩
  · have hne : (er != 0) = true := bne_iff_ne.mpr he
    have h2 := h.out
    rw [if_neg he] at h2
    injection h2 with e1 e2
    subst e1 e2
    clear h he
    go_wp2_with fail
    rw [Exit.noGoto_ret]
    go_ret2
    exact ⟨_, rfl, Kd.R_of_own (own_nil _ _ _ _) (fun _ _ => trivial), HB1.out.alloc HB1.out.size _⟩
end Go.Proofs.Ytgjifkegfbpjkaa.Q
end
