/- Walks: Leave of package corner. -/
import Derived.Test.YtgjifkegfbpjkaaXCkLv
section
namespace Go.Proofs.Ytgjifkegfbpjkaa.Q
set_option linter.unusedVariables false
open Go.RowKit Go.Maps Go.Proofs.YtgjifkegfbpjkaaW.PrintWords Go.Proofs.YtgjifkegfbpjkaaW.PrintLast Go.Proofs.YtgjifkegfbpjkaaW.PrintMore
def lvFrom (ex : Int) (hs : List S73) (k : Nat) : Option (List Int) := (List.range' k (hs.length + 1 - k)).findSome? fun m => lvn ex hs m [] 0
theorem lvFrom_step (ex : Int) (hs : List S73) (k : Nat) (h : k < hs.length + 1) : lvFrom ex hs k = (lvn ex hs k [] 0).or (lvFrom ex hs (k + 1)) := by
  unfold lvFrom
  rw [show hs.length + 1 - k = (hs.length + 1 - (k + 1)) + 1 from by omega, List.range'_succ, List.findSome?_cons]
  cases lvn ex hs k [] 0 <;> rfl
theorem lvFrom_end (ex : Int) (hs : List S73) : lvFrom ex hs (hs.length + 1) = none := by
  unfold lvFrom; rw [Nat.sub_self]; rfl
def corner_Leave.f (a0_0 : Int) (l0_1 : List (S73)) (l0_2 : List (S75)) : Option (List Int × Int) :=
  if ck a0_0 l0_1 l0_2 = 0 then (lvFrom a0_0 l0_1 0).map fun l => (l, 0) else some ([], ck a0_0 l0_1 l0_2)
set_option maxHeartbeats 2000000 in
set_option maxRecDepth 100000 in
theorem corner_Leave.calls (a0_0 : Int) (A0_1 : Option Addr) (c0_1 : Nat) (l0_1 : List (S73)) (A0_2 : Option Addr) (c0_2 : Nat) (l0_2 : List (S75)) (r1 : List Int) (r2 : Int) (w : World) (hr0_1 : Kd.C k73 w A0_1 l0_1.length l0_1) (hc0_1 : l0_1.length ≤ c0_1) (hr0_2 : Kd.C k75 w A0_2 l0_2.length l0_2) (hc0_2 : l0_2.length ≤ c0_2) (h : corner_Leave.f a0_0 l0_1 l0_2 = some (r1, r2)) :
    Calls Try.prog 40 #[.agg #[.int .i64 a0_0, .slice A0_1 l0_1.length c0_1, .slice A0_2 l0_2.length c0_2]] w fun e w' => ∃ v0_ : Value, e = .returned (.tuple #[v0_, .int .i64 r2]) ∧ Kd.R (Kd.int .i64) 3 w' w.heap.size (fun _ => True) v0_ r1 ∧ Below w.heap.size w w' := by
  have hu35 := Try.underlying35
  have M1 := Aside0.mk hr0_1
  have M2 := Aside0.mk hr0_2
  have C1 := Aside0.mk hc0_1
  have C2 := Aside0.mk hc0_2
  have H := Aside0.mk h
  clear hr0_1 hr0_2 hc0_1 hc0_2 h
  obtain ⟨er, HER⟩ : ∃ er, Aside0 (ck a0_0 l0_1 l0_2 = er) := ⟨_, ⟨rfl⟩⟩
  go_enter Try.func40, Try.ntmps40
  go_wp2_with fail
  have hb0 : Below w.heap.size w (w.alloc (.cells #[.int .i64 a0_0, .slice A0_1 l0_1.length c0_1, .slice A0_2 l0_2.length c0_2] 35)) := (Below.refl _ _).alloc (Nat.le_refl _) _
  refine (corner_CheckMarket.calls a0_0 A0_1 c0_1 l0_1 A0_2 c0_2 l0_2 er _ (Kd.C_below M1.out hb0) C1.out (Kd.C_below M2.out hb0) C2.out (by unfold corner_CheckMarket.f; rw [HER.out])).mono ?_
  rintro e w1 ⟨rfl, hb1⟩
  have x0 := pw_cell_below hb1 (show (w.alloc (.cells #[.int .i64 a0_0, .slice A0_1 l0_1.length c0_1, .slice A0_2 l0_2.length c0_2] 35)).cell? ⟨w.heap.size, 0, none⟩ = some (.int .i64 a0_0) by simp)
  have x1 := pw_cell_below hb1 (show (w.alloc (.cells #[.int .i64 a0_0, .slice A0_1 l0_1.length c0_1, .slice A0_2 l0_2.length c0_2] 35)).cell? ⟨w.heap.size, 1, none⟩ = some (.slice A0_1 l0_1.length c0_1) by simp)
  have x2 := pw_cell_below hb1 (show (w.alloc (.cells #[.int .i64 a0_0, .slice A0_1 l0_1.length c0_1, .slice A0_2 l0_2.length c0_2] 35)).cell? ⟨w.heap.size, 2, none⟩ = some (.slice A0_2 l0_2.length c0_2) by simp)
  have HB1 := Aside0.mk (hb0.trans (hb1.mono (by simp)))
  have hs1 : w.heap.size < w1.heap.size := by have := hb1.size; simp at this; omega
  clear hb0 hb1
  by_cases he : er = 0
  · subst he
    have h2 := H.out
    unfold corner_Leave.f at h2
    rw [if_pos HER.out] at h2
    replace h2 := Aside0.mk h2
    have HZ := Aside0.mk (ck_zero HER.out)
    obtain ⟨bm, HBM⟩ : ∃ bm, Aside0 (w.heap.size = bm) := ⟨_, ⟨rfl⟩⟩
    rw [HBM.out] at x0 x1 x2 hs1
    rw [HBM.out]
    have hbw : Below w.heap.size w ((w1.alloc (.cells #[.slice none 0 0] 26)).alloc (.cells #[.func (.func 85) #[] #[.pointer (some ⟨w1.heap.size, 0, none⟩), .pointer (some ⟨bm, 0, none⟩), .pointer (some ⟨w1.heap.size + 1, 0, none⟩)]] 135)) := (HB1.out.alloc HB1.out.size _).alloc (by have := HB1.out.size; simp; omega) _
    have HCc : Aside0 (Cc w 85 w1.heap.size bm (w1.heap.size + 1) a0_0 A0_1 c0_1 l0_1 A0_2 c0_2 l0_2 ((w1.alloc (.cells #[.slice none 0 0] 26)).alloc (.cells #[.func (.func 85) #[] #[.pointer (some ⟨w1.heap.size, 0, none⟩), .pointer (some ⟨bm, 0, none⟩), .pointer (some ⟨w1.heap.size + 1, 0, none⟩)]] 135))) := by
      refine ⟨⟨?_, ?_, ?_, (World.cell?_alloc_at _ _ _ _ (by simp)).trans rfl, ⟨none, 0, 0, ?_⟩, ?_, hbw, by have := HB1.out.size; omega, by omega, by omega⟩⟩
      · rw [World.cell?_alloc_past _ _ _ (by simp; omega), World.cell?_alloc_past _ _ _ (by simpa using hs1)]; exact x0
      · rw [World.cell?_alloc_past _ _ _ (by simp; omega), World.cell?_alloc_past _ _ _ (by simpa using hs1)]; exact x1
      · rw [World.cell?_alloc_past _ _ _ (by simp; omega), World.cell?_alloc_past _ _ _ (by simpa using hs1)]; exact x2
      · rw [World.cell?_alloc_past _ _ _ (by simp)]; simp
      · rw [World.frozen?_alloc_past _ _ _ (by simp)]; simp
    have hsz : w1.heap.size + 1 < ((w1.alloc (.cells #[.slice none 0 0] 26)).alloc (.cells #[.func (.func 85) #[] #[.pointer (some ⟨w1.heap.size, 0, none⟩), .pointer (some ⟨bm, 0, none⟩), .pointer (some ⟨w1.heap.size + 1, 0, none⟩)]] 135)).heap.size := by simp
    have m1 := HCc.out.m1
    have hn6 : l0_1.length ≤ 6 := HZ.out.2.1
    have hn0 : 0 < l0_1.length := HZ.out.1
    have ewn : IntKind.i64.wrap ((l0_1.length : Int) + 1) = (l0_1.length : Int) + 1 := wrap_in (by omega) (by omega)
    have ewn2 : wrap64 ((l0_1.length : Int) + 1) = (l0_1.length : Int) + 1 := (i64_w _).symm.trans ewn
    clear x0 x2 hbw
    go_wp2_with fail
    clear x1
    generalize ((w1.alloc (.cells #[.slice none 0 0] 26)).alloc (.cells #[.func (.func 85) #[] #[.pointer (some ⟨w1.heap.size, 0, none⟩), .pointer (some ⟨bm, 0, none⟩), .pointer (some ⟨w1.heap.size + 1, 0, none⟩)]] 135)) = W at *
    have hbf : w.heap.size ≤ w1.heap.size := HB1.out.size
    obtain ⟨bf, HBF⟩ : ∃ bf, Aside0 (w1.heap.size = bf) := ⟨_, ⟨rfl⟩⟩
    rw [HBF.out] at HCc hsz hbf
    rw [HBF.out]
    clear hs1 m1
    go_loopw [18] (fun v18 wr => ∃ k : Nat, v18 = .int .i64 k ∧ k ≤ l0_1.length + 1 ∧ Aside0 (Cc w 85 bf bm (bf + 1) a0_0 A0_1 c0_1 l0_1 A0_2 c0_2 l0_2 wr) ∧ Aside0 (bf + 2 ≤ wr.heap.size) ∧ Aside0 (lvFrom a0_0 l0_1 k = lvFrom a0_0 l0_1 0))
      (fun v18 _ => l0_1.length + 1 - (intOf v18).toNat)
    case atStart => exact ⟨0, rfl, Nat.zero_le _, HCc, ⟨by omega⟩, ⟨rfl⟩⟩
    case round =>
      obtain ⟨k, rfl, hk, HCr, HSr, HK⟩ := hrel
      by_cases hlt : k < l0_1.length + 1
      · have hlt' : (k : Int) < (l0_1.length : Int) + 1 := by omega
        have mca := HCr.out.ca
        obtain ⟨R, HR⟩ : ∃ R, Aside0 (lvn a0_0 l0_1 k [] 0 = R) := ⟨_, ⟨rfl⟩⟩
        have hst := lvFrom_step a0_0 l0_1 k hlt
        rw [HR.out, HK.out] at hst
        have HST := Aside0.mk hst
        clear hst
        have hadd := lv_calls w bf bm (bf + 1) a0_0 A0_1 c0_1 l0_1 A0_2 c0_2 l0_2 M1 M2 ⟨ck_okCs HER.out⟩ ⟨HZ.out.2.2.2.2.2.1⟩ hn6 hn0 ⟨HZ.out.2.2.2.1, HZ.out.2.2.2.2.1⟩ (bf + 2) (by omega) C2.out k [] 0 0 k (.slice none 0 0) wr rfl rfl (by simp) (by simp; omega) (Nat.zero_le _) HSr.out (own_nil _ _ _ _) HCr.out
        rw [HR.out] at hadd
        have HADD := Aside0.mk hadd
        clear hadd
        cases R with
        | none =>
          go_wp2_with fail
          refine HADD.out.mono ?_
          rintro e w4 ⟨rfl, hg4, hc4, hf4⟩
          have HG4 := Aside0.mk hg4
          have HC4 := Aside0.mk hc4
          clear hg4 hc4 hf4
          simp only [Option.isSome_none]
          go_wp2_with fail
          go_roundw
          case rel => exact ⟨k + 1, by go_num, by omega, HC4, ⟨Nat.le_trans HSr.out HG4.out.size⟩, ⟨HST.out.symm⟩⟩
          case measure => simp [intOf]; omega
        | some l =>
          go_wp2_with fail
          refine HADD.out.mono ?_
          rintro e w4 ⟨rfl, hg4, hc4, hf4⟩
          obtain ⟨v', hv', ho'⟩ := hf4 l rfl
          have HC4 := Aside0.mk hc4
          have HO4 := Aside0.mk ho'
          clear hg4 hc4 hf4 ho'
          simp only [Option.isSome_some]
          go_wp2_with fail
          go_ret2
          have h3 := h2.out
          rw [HST.out] at h3
          injection h3 with h3
          injection h3 with e1 e2
          subst e1 e2
          exact ⟨_, rfl, R_nums HO4.out (by have := HBM.out; omega), HBM.out ▸ HC4.out.bel⟩
      · obtain rfl : k = l0_1.length + 1 := by omega
        have h3 := h2.out
        rw [← HK.out, lvFrom_end] at h3
        cases h3
  · have hne : (er != 0) = true := bne_iff_ne.mpr he
    have h2 := H.out
    unfold corner_Leave.f at h2
    rw [HER.out, if_neg he] at h2
    injection h2 with h2
    injection h2 with e1 e2
    subst e1 e2
    clear he
    go_wp2_with fail
    go_ret2
    exact ⟨_, rfl, Kd.R_of_own (own_nil _ _ _ _) (fun _ _ => trivial), HB1.out⟩
end Go.Proofs.Ytgjifkegfbpjkaa.Q
end
