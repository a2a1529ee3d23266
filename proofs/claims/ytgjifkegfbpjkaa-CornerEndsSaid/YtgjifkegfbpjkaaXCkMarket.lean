/- Walks: CheckMarket of package corner, with the tests of lists that it makes by function values. -/
import Derived.Test.YtgjifkegfbpjkaaXSmall
import Derived.Test.YtgjifkegfbpjkaaXQf69
section
namespace Go.Proofs.Ytgjifkegfbpjkaa.Q
open Go.RowKit Go.Proofs.YtgjifkegfbpjkaaW.PrintWords Go.Proofs.YtgjifkegfbpjkaaW.PrintLast Go.Proofs.YtgjifkegfbpjkaaW.PrintMore
theorem ret_i64 {a b : Int} (h : a = b) : Ending.returned (.int .i64 a) = .returned (.int .i64 b) := by rw [h]
theorem ret_bool {a b : Bool} (h : a = b) : Ending.returned (.bool a) = .returned (.bool b) := by rw [h]
def vH (x : S73) : Bool := decide (0 ≤ x.f0.f0) && (decide (x.f0.f0 ≤ x.f0.f1) && (decide (x.f0.f1 ≤ 200) && (decide (0 ≤ x.f2) && decide (x.f2 ≤ 1000))))
theorem vH_f (x : S73) : corner_House_valid.f x.f0.f0 x.f0.f1 x.f1 x.f2 = some (vH x) := by
  unfold corner_House_valid.f corner_within.f vH
  by_cases h1 : 0 ≤ x.f0.f0 <;> by_cases h2 : x.f0.f0 ≤ x.f0.f1 <;> by_cases h3 : x.f0.f1 ≤ 200 <;> by_cases h4 : 0 ≤ x.f2 <;> simp [h1, h2, h3, h4]
def badAt {α : Type} (f : α → Bool) (l : List α) : Int := if l.all f then -1 else (l.findIdx (fun x => !f x) : Nat)
theorem badAt_neg {α : Type} (f : α → Bool) (l : List α) : decide (badAt f l ≥ 0) = !l.all f := by
  unfold badAt
  by_cases h : l.all f = true
  · simp [h]
  · simp only [h]; simp
theorem badAt_none {α : Type} {f : α → Bool} {l : List α} (h : ∀ j (hj : j < l.length), f l[j] = true) : badAt f l = -1 := by
  unfold badAt
  rw [if_pos]
  rw [List.all_eq_true]
  intro x hx
  obtain ⟨j, hj, rfl⟩ := List.mem_iff_getElem.1 hx
  exact h j hj
theorem badAt_some {α : Type} {f : α → Bool} {l : List α} {k : Nat} (hk : k < l.length) (h : ∀ j (hj : j < l.length), j < k → f l[j] = true) (hb : f l[k] = false) : badAt f l = (k : Int) := by
  unfold badAt
  rw [if_neg]
  · congr 1
    rw [List.findIdx_eq hk]
    exact ⟨by simp [hb], fun j hj => by simp [h j (by omega) hj]⟩
  · rw [List.all_eq_true]
    intro hx
    rw [hx _ (List.getElem_mem hk)] at hb
    cases hb
set_option maxHeartbeats 400000 in
set_option maxRecDepth 100000 in
theorem allH1 (x : S73) (p : Nat) (w : World) (hp : w.cell? ⟨p, 0, none⟩ = some (.func (.func 72) #[] #[])) :
    Calls Try.prog 108 #[.agg #[.int .i64 x.f0.f0, .int .i64 x.f0.f1, .bool x.f1, .int .i64 x.f2], .pointer (some ⟨p, 0, none⟩)] w fun e w' => e = .returned (.bool (!vH x)) ∧ Below w.heap.size w w' := by
  have hu73 := Try.underlying73
  have hlt := World.block_lt_of_cell? w _ hp
  go_enter Try.func108, Try.ntmps108
  go_wp2_with fail
  refine (corner_House_valid.calls _ _ _ _ _ _ (vH_f x)).mono ?_
  rintro e w' ⟨rfl, hb⟩
  go_wp2_with fail
  go_ret
  exact ⟨rfl, ((Below.refl w.heap.size w).alloc (Nat.le_refl _) _).trans (hb.mono (by simp))⟩
set_option maxHeartbeats 400000 in
set_option maxRecDepth 100000 in
theorem idxH (A : Option Addr) (c : Nat) (l : List S73) (p : Nat) (w : World) (hr : Kd.C k73 w A l.length l) (hp : w.cell? ⟨p, 0, none⟩ = some (.func (.func 72) #[] #[])) :
    Calls Try.prog 125 #[.slice A l.length c, .func (.func 108) #[] #[.pointer (some ⟨p, 0, none⟩)]] w fun e w' => e = .returned (.int .i64 (badAt vH l)) ∧ Below w.heap.size w w' := by
  have hu73 := Try.underlying73
  have hm : l.length ≤ 9223372036854775807 := hr.2.1
  have HR := Aside0.mk hr
  have HP := Aside0.mk hp
  clear hr hp
  go_enter Try.func125, Try.ntmps125
  go_wp2_with fail
  go_loopw [8] (fun v8 wr => ∃ i : Int, v8 = .int .i64 i ∧ 0 ≤ i ∧ i ≤ (l.length : Int) ∧ Aside0 (∀ j (hj : j < l.length), j < i.toNat → vH l[j] = true) ∧ Below w.heap.size w wr) (fun v8 _ => l.length - (intOf v8).toNat)
  case atStart => exact ⟨0, rfl, by omega, by omega, ⟨fun j hj h0 => absurd h0 (Nat.not_lt_zero _)⟩, Below.refl _ _⟩
  case round =>
    obtain ⟨i, rfl, hi0, hil, HV, hB⟩ := hrel
    by_cases hlt : i < (l.length : Int)
    · obtain ⟨ad, rfl, h0, h1, h2, h3⟩ := at_T73 (Kd.C_below HR.out hB) i hi0 hlt
      have hpw : wr.cell? ⟨p, 0, none⟩ = some (.func (.func 72) #[] #[]) := pw_cell_below hB HP.out
      have HPW := Aside0.mk hpw
      clear hpw
      have hel : rd_T73 l i = l[i.toNat]'(by omega) := by
        unfold rd_T73
        rw [List.getD_eq_getElem?_getD, List.getElem?_eq_getElem (by omega), Option.getD_some]
      have HEL := Aside0.mk hel
      clear hel
      cases hv : vH (rd_T73 l i) with
      | true =>
        go_wp2_with fail
        refine (allH1 _ p _ HPW.out).mono ?_
        rw [hv]
        rintro e w1 ⟨rfl, hb⟩
        go_wp2_with fail
        go_roundw
        case rel =>
          refine ⟨i + 1, by go_num, by omega, by omega, ⟨fun j hj h0 => ?_⟩, hB.trans (hb.mono hB.size)⟩
          by_cases hji : j < i.toNat
          · exact HV.out j hj hji
          · have : j = i.toNat := by omega
            subst this
            rw [← HEL.out]; exact hv
        case measure => simp [intOf]; omega
      | false =>
        go_wp2_with fail
        refine (allH1 _ p _ HPW.out).mono ?_
        rw [hv]
        rintro e w1 ⟨rfl, hb⟩
        go_wp2_with fail
        go_ret
        exact ⟨ret_i64 (by rw [badAt_some (k := i.toNat) (by omega) (fun j hj h => HV.out j hj h) (by rw [← HEL.out]; exact hv)]; omega), hB.trans (hb.mono hB.size)⟩
    · go_wp2_with fail
      go_ret
      exact ⟨ret_i64 (by rw [badAt_none (fun j hj => HV.out j hj (by omega))]), hB⟩
set_option maxHeartbeats 400000 in
set_option maxRecDepth 100000 in
theorem contH (A : Option Addr) (c : Nat) (l : List S73) (p : Nat) (w : World) (hr : Kd.C k73 w A l.length l) (hp : w.cell? ⟨p, 0, none⟩ = some (.func (.func 72) #[] #[])) :
    Calls Try.prog 107 #[.slice A l.length c, .func (.func 108) #[] #[.pointer (some ⟨p, 0, none⟩)]] w fun e w' => e = .returned (.bool (!l.all vH)) ∧ Below w.heap.size w w' := by
  have HR := Aside0.mk hr
  have HP := Aside0.mk hp
  clear hr hp
  go_enter Try.func107, Try.ntmps107
  go_wp2_with fail
  refine (idxH _ _ l p _ HR.out HP.out).mono ?_
  rintro e w1 ⟨rfl, hb⟩
  go_wp2_with fail
  go_ret
  exact ⟨ret_bool (badAt_neg vH l), hb⟩
set_option maxHeartbeats 400000 in
set_option maxRecDepth 100000 in
theorem allH (A : Option Addr) (c : Nat) (l : List S73) (w : World) (hr : Kd.C k73 w A l.length l) :
    Calls Try.prog 71 #[.slice A l.length c, .func (.func 72) #[] #[]] w fun e w' => e = .returned (.bool (l.all vH)) ∧ Below w.heap.size w w' := by
  have HR := Aside0.mk hr
  clear hr
  go_enter Try.func71, Try.ntmps71
  go_wp2_with fail
  refine (contH _ _ l _ _ (Kd.C_below HR.out ((Below.refl w.heap.size w).alloc (Nat.le_refl _) _)) (by simp)).mono ?_
  rintro e w1 ⟨rfl, hb⟩
  go_wp2_with fail
  go_ret
  exact ⟨ret_bool (by simp), ((Below.refl w.heap.size w).alloc (Nat.le_refl _) _).trans (hb.mono (by simp))⟩
abbrev mv (e : Int) (A1 : Option Addr) (c1 : Nat) (hs : List S73) (A2 : Option Addr) (c2 : Nat) (cs : List S75) : Value := .agg #[.int .i64 e, .slice A1 hs.length c1, .slice A2 cs.length c2]
def vC (n : Nat) (x : S75) : Bool := decide (0 ≤ x.f0) && (decide (x.f0 ≤ (n : Int) - 1) && (decide (0 ≤ x.f1) && (decide (x.f1 ≤ (n : Int) - 1) && (!(x.f0 == x.f1) && (decide (1 ≤ x.f2) && decide (x.f2 ≤ 200))))))
theorem vC_f (e : Int) (hs : List S73) (cs : List S75) (x : S75) (hm : hs.length ≤ 9223372036854775807) : corner_Market_contract.f e hs cs x.f0 x.f1 x.f2 = some (vC hs.length x) := by
  have hw : wrap64 ((hs.length : Int) - 1) = (hs.length : Int) - 1 := by unfold wrap64; omega
  unfold corner_Market_contract.f corner_Market_house.f corner_within.f vC
  rw [hw]
  by_cases h1 : 0 ≤ x.f0
  · by_cases h2 : x.f0 ≤ (hs.length : Int) - 1
    · by_cases h3 : 0 ≤ x.f1
      · by_cases h4 : x.f1 ≤ (hs.length : Int) - 1
        · by_cases h5 : x.f0 = x.f1
          · simp [h3, h4, h5]
          · by_cases h6 : 1 ≤ x.f2 <;> simp [h1, h2, h3, h4, h5, h6]
        · simp [h1, h2, h3, h4]
      · simp [h1, h2, h3]
    · simp [h1, h2]
  · simp [h1]
set_option maxHeartbeats 400000 in
set_option maxRecDepth 100000 in
theorem allC1 (e : Int) (A1 : Option Addr) (c1 : Nat) (hs : List S73) (A2 : Option Addr) (c2 : Nat) (cs : List S75) (q1 : hs.length ≤ c1) (q2 : cs.length ≤ c2) (x : S75) (p : Nat) (w : World) (m1 : Kd.C k73 w A1 hs.length hs) (m2 : Kd.C k75 w A2 cs.length cs) (hp : w.cell? ⟨p, 0, none⟩ = some (.func (.func 69) #[mv e A1 c1 hs A2 c2 cs] #[])) :
    Calls Try.prog 110 #[.agg #[.int .i64 x.f0, .int .i64 x.f1, .int .i64 x.f2], .pointer (some ⟨p, 0, none⟩)] w fun e w' => e = .returned (.bool (!vC hs.length x)) ∧ Below w.heap.size w w' := by
  have hu75 := Try.underlying75
  have hlt := World.block_lt_of_cell? w _ hp
  have M1 := Aside0.mk m1
  have M2 := Aside0.mk m2
  clear m1 m2
  go_enter Try.func110, Try.ntmps110
  go_wp2_with fail
  refine (corner_Market_contract.calls _ _ _ hs _ _ cs _ _ _ _ _ (Kd.C_below M1.out ((Below.refl w.heap.size w).alloc (Nat.le_refl _) _)) q1 (Kd.C_below M2.out ((Below.refl w.heap.size w).alloc (Nat.le_refl _) _)) q2 (vC_f e hs cs x M1.out.2.1)).mono ?_
  rintro e w' ⟨rfl, hb⟩
  go_wp2_with fail
  go_ret
  exact ⟨rfl, ((Below.refl w.heap.size w).alloc (Nat.le_refl _) _).trans (hb.mono (by simp))⟩
set_option maxHeartbeats 400000 in
set_option maxRecDepth 100000 in
theorem idxC (e : Int) (A1 : Option Addr) (c1 : Nat) (hs : List S73) (A2 : Option Addr) (c2 : Nat) (cs : List S75) (q1 : hs.length ≤ c1) (q2 : cs.length ≤ c2) (A : Option Addr) (c : Nat) (l : List S75) (p : Nat) (w : World) (m1 : Kd.C k73 w A1 hs.length hs) (m2 : Kd.C k75 w A2 cs.length cs) (hr : Kd.C k75 w A l.length l) (hp : w.cell? ⟨p, 0, none⟩ = some (.func (.func 69) #[mv e A1 c1 hs A2 c2 cs] #[])) :
    Calls Try.prog 126 #[.slice A l.length c, .func (.func 110) #[] #[.pointer (some ⟨p, 0, none⟩)]] w fun e w' => e = .returned (.int .i64 (badAt (vC hs.length) l)) ∧ Below w.heap.size w w' := by
  have hu75 := Try.underlying75
  have hm : l.length ≤ 9223372036854775807 := hr.2.1
  have HR := Aside0.mk hr
  have HP := Aside0.mk hp
  clear hr hp
  have M1 := Aside0.mk m1
  have M2 := Aside0.mk m2
  clear m1 m2
  go_enter Try.func126, Try.ntmps126
  go_wp2_with fail
  go_loopw [8] (fun v8 wr => ∃ i : Int, v8 = .int .i64 i ∧ 0 ≤ i ∧ i ≤ (l.length : Int) ∧ Aside0 (∀ j (hj : j < l.length), j < i.toNat → vC hs.length l[j] = true) ∧ Below w.heap.size w wr) (fun v8 _ => l.length - (intOf v8).toNat)
  case atStart => exact ⟨0, rfl, by omega, by omega, ⟨fun j hj h0 => absurd h0 (Nat.not_lt_zero _)⟩, Below.refl _ _⟩
  case round =>
    obtain ⟨i, rfl, hi0, hil, HV, hB⟩ := hrel
    by_cases hlt : i < (l.length : Int)
    · obtain ⟨ad, rfl, h0, h1, h2⟩ := at_T75 (Kd.C_below HR.out hB) i hi0 hlt
      have hpw : wr.cell? ⟨p, 0, none⟩ = some (.func (.func 69) #[mv e A1 c1 hs A2 c2 cs] #[]) := pw_cell_below hB HP.out
      have HPW := Aside0.mk hpw
      clear hpw
      have hel : rd_T75 l i = l[i.toNat]'(by omega) := by
        unfold rd_T75
        rw [List.getD_eq_getElem?_getD, List.getElem?_eq_getElem (by omega), Option.getD_some]
      have HEL := Aside0.mk hel
      clear hel
      cases hv : vC hs.length (rd_T75 l i) with
      | true =>
        go_wp2_with fail
        refine (allC1 e A1 c1 hs A2 c2 cs q1 q2 _ p _ (Kd.C_below M1.out hB) (Kd.C_below M2.out hB) HPW.out).mono ?_
        rw [hv]
        rintro e w1 ⟨rfl, hb⟩
        go_wp2_with fail
        go_roundw
        case rel =>
          refine ⟨i + 1, by go_num, by omega, by omega, ⟨fun j hj h0 => ?_⟩, hB.trans (hb.mono hB.size)⟩
          by_cases hji : j < i.toNat
          · exact HV.out j hj hji
          · have : j = i.toNat := by omega
            subst this
            rw [← HEL.out]; exact hv
        case measure => simp [intOf]; omega
      | false =>
        go_wp2_with fail
        refine (allC1 e A1 c1 hs A2 c2 cs q1 q2 _ p _ (Kd.C_below M1.out hB) (Kd.C_below M2.out hB) HPW.out).mono ?_
        rw [hv]
        rintro e w1 ⟨rfl, hb⟩
        go_wp2_with fail
        go_ret
        exact ⟨ret_i64 (by rw [badAt_some (k := i.toNat) (by omega) (fun j hj h => HV.out j hj h) (by rw [← HEL.out]; exact hv)]; omega), hB.trans (hb.mono hB.size)⟩
    · go_wp2_with fail
      go_ret
      exact ⟨ret_i64 (by rw [badAt_none (fun j hj => HV.out j hj (by omega))]), hB⟩
set_option maxHeartbeats 400000 in
set_option maxRecDepth 100000 in
theorem contC (e : Int) (A1 : Option Addr) (c1 : Nat) (hs : List S73) (A2 : Option Addr) (c2 : Nat) (cs : List S75) (q1 : hs.length ≤ c1) (q2 : cs.length ≤ c2) (A : Option Addr) (c : Nat) (l : List S75) (p : Nat) (w : World) (m1 : Kd.C k73 w A1 hs.length hs) (m2 : Kd.C k75 w A2 cs.length cs) (hr : Kd.C k75 w A l.length l) (hp : w.cell? ⟨p, 0, none⟩ = some (.func (.func 69) #[mv e A1 c1 hs A2 c2 cs] #[])) :
    Calls Try.prog 109 #[.slice A l.length c, .func (.func 110) #[] #[.pointer (some ⟨p, 0, none⟩)]] w fun e w' => e = .returned (.bool (!l.all (vC hs.length))) ∧ Below w.heap.size w w' := by
  have HR := Aside0.mk hr
  have HP := Aside0.mk hp
  clear hr hp
  have M1 := Aside0.mk m1
  have M2 := Aside0.mk m2
  clear m1 m2
  go_enter Try.func109, Try.ntmps109
  go_wp2_with fail
  refine (idxC e A1 c1 hs A2 c2 cs q1 q2 _ _ l p _ M1.out M2.out HR.out HP.out).mono ?_
  rintro e w1 ⟨rfl, hb⟩
  go_wp2_with fail
  go_ret
  exact ⟨ret_bool (badAt_neg (vC hs.length) l), hb⟩
set_option maxHeartbeats 400000 in
set_option maxRecDepth 100000 in
theorem allC (e : Int) (A1 : Option Addr) (c1 : Nat) (hs : List S73) (A2 : Option Addr) (c2 : Nat) (cs : List S75) (q1 : hs.length ≤ c1) (q2 : cs.length ≤ c2) (A : Option Addr) (c : Nat) (l : List S75) (w : World) (m1 : Kd.C k73 w A1 hs.length hs) (m2 : Kd.C k75 w A2 cs.length cs) (hr : Kd.C k75 w A l.length l) :
    Calls Try.prog 73 #[.slice A l.length c, .func (.func 69) #[mv e A1 c1 hs A2 c2 cs] #[]] w fun e w' => e = .returned (.bool (l.all (vC hs.length))) ∧ Below w.heap.size w w' := by
  have HR := Aside0.mk hr
  clear hr
  have M1 := Aside0.mk m1
  have M2 := Aside0.mk m2
  clear m1 m2
  go_enter Try.func73, Try.ntmps73
  go_wp2_with fail
  refine (contC e A1 c1 hs A2 c2 cs q1 q2 _ _ l _ _ (Kd.C_below M1.out ((Below.refl w.heap.size w).alloc (Nat.le_refl _) _)) (Kd.C_below M2.out ((Below.refl w.heap.size w).alloc (Nat.le_refl _) _)) (Kd.C_below HR.out ((Below.refl w.heap.size w).alloc (Nat.le_refl _) _)) (by simp)).mono ?_
  rintro e w1 ⟨rfl, hb⟩
  go_wp2_with fail
  go_ret
  exact ⟨ret_bool (by simp), ((Below.refl w.heap.size w).alloc (Nat.le_refl _) _).trans (hb.mono (by simp))⟩
def ck (e : Int) (hs : List S73) (cs : List S75) : Int :=
  if 6 < hs.length ∨ 8 < cs.length then 3 else if ¬ (1 ≤ e ∧ e ≤ 200) ∨ hs.length = 0 ∨ hs.all vH = false ∨ cs.all (vC hs.length) = false then 1 else 0
def corner_CheckMarket.f (a0_0 : Int) (l0_1 : List (S73)) (l0_2 : List (S75)) : Option (Int) := some (ck a0_0 l0_1 l0_2)
theorem within_no {a lo hi : Int} (h : ¬ (lo ≤ a ∧ a ≤ hi)) : corner_within.f a lo hi = some false := by
  unfold corner_within.f
  by_cases h1 : lo ≤ a
  · rw [if_pos h1, decide_eq_false (by omega)]
  · rw [if_neg h1]
theorem within_yes {a lo hi : Int} (h1 : lo ≤ a) (h2 : a ≤ hi) : corner_within.f a lo hi = some true := by
  unfold corner_within.f
  rw [if_pos h1, decide_eq_true h2]
set_option maxHeartbeats 1000000 in
set_option maxRecDepth 100000 in
theorem corner_CheckMarket.calls (a0_0 : Int) (A0_1 : Option Addr) (c0_1 : Nat) (l0_1 : List (S73)) (A0_2 : Option Addr) (c0_2 : Nat) (l0_2 : List (S75)) (r : Int) (w : World) (hr0_1 : Kd.C k73 w A0_1 l0_1.length l0_1) (hc0_1 : l0_1.length ≤ c0_1) (hr0_2 : Kd.C k75 w A0_2 l0_2.length l0_2) (hc0_2 : l0_2.length ≤ c0_2) (h : corner_CheckMarket.f a0_0 l0_1 l0_2 = some r) :
    Calls Try.prog 25 #[.agg #[.int .i64 a0_0, .slice A0_1 l0_1.length c0_1, .slice A0_2 l0_2.length c0_2]] w fun e w' => e = .returned (.int .i64 r) ∧ Below w.heap.size w w' := by
  have hu35 := Try.underlying35
  have m1 : l0_1.length ≤ 9223372036854775807 := hr0_1.2.1
  have m2 : l0_2.length ≤ 9223372036854775807 := hr0_2.2.1
  have M1 := Aside0.mk hr0_1
  have M2 := Aside0.mk hr0_2
  clear hr0_1 hr0_2
  unfold corner_CheckMarket.f at h
  obtain rfl := Option.some.inj h
  clear h
  by_cases h1 : 6 < l0_1.length
  · have HR : Aside0 (ck a0_0 l0_1 l0_2 = 3) := ⟨by unfold ck; rw [if_pos (.inl h1)]⟩
    go_enter Try.func25, Try.ntmps25
    go_wp2_with fail
    go_ret
    exact ⟨ret_i64 HR.out.symm, (Below.refl w.heap.size w).alloc (Nat.le_refl _) _⟩
  by_cases h2 : 8 < l0_2.length
  · have HR : Aside0 (ck a0_0 l0_1 l0_2 = 3) := ⟨by unfold ck; rw [if_pos (.inr h2)]⟩
    go_enter Try.func25, Try.ntmps25
    go_wp2_with fail
    go_ret
    exact ⟨ret_i64 HR.out.symm, (Below.refl w.heap.size w).alloc (Nat.le_refl _) _⟩
  have hn : ¬ (6 < l0_1.length ∨ 8 < l0_2.length) := by omega
  by_cases h3 : 1 ≤ a0_0 ∧ a0_0 ≤ 200
  · have HN := Aside0.mk hn
    clear hn
    have H3 := Aside0.mk h3
    clear h3
    have hB1 := Aside0.mk ((Below.refl w.heap.size w).alloc (Nat.le_refl _) (.cells #[.int .i64 a0_0, .slice A0_1 l0_1.length c0_1, .slice A0_2 l0_2.length c0_2] 35))
    by_cases h4 : l0_1.length = 0
    · have HR : Aside0 (ck a0_0 l0_1 l0_2 = 1) := ⟨by unfold ck; rw [if_neg HN.out, if_pos (.inr (.inl h4))]⟩
      have h4b : ((l0_1.length : Int) == 0) = true := by simp [h4]
      clear h4
      go_enter Try.func25, Try.ntmps25
      go_wp2_with fail
      refine (corner_within.calls _ _ _ true _ (within_yes H3.out.1 H3.out.2)).mono ?_
      rintro e w' ⟨rfl, hd⟩
      obtain ⟨n, rfl⟩ := hd.out
      go_wp2_with fail
      go_ret
      exact ⟨ret_i64 HR.out.symm, pw_below_drewN hB1.out n⟩
    · have h4b : ((l0_1.length : Int) == 0) = false := beq_eq_false_iff_ne.2 (by omega)
      cases h5 : l0_1.all vH with
      | false =>
        have HR : Aside0 (ck a0_0 l0_1 l0_2 = 1) := ⟨by unfold ck; rw [if_neg HN.out, if_pos (.inr (.inr (.inl h5)))]⟩
        have H5 := Aside0.mk h5
        clear h5 h4
        go_enter Try.func25, Try.ntmps25
        go_wp2_with fail
        refine (corner_within.calls _ _ _ true _ (within_yes H3.out.1 H3.out.2)).mono ?_
        rintro e w' ⟨rfl, hd⟩
        obtain ⟨n, rfl⟩ := hd.out
        go_wp2_with fail
        refine (allH _ _ l0_1 _ (Kd.C_below M1.out (pw_below_drewN hB1.out n))).mono ?_
        rw [H5.out]
        rintro e w1 ⟨rfl, hb⟩
        have HB := Aside0.mk ((pw_below_drewN hB1.out n).trans (hb.mono (pw_below_drewN hB1.out n).size))
        clear hb
        go_wp2_with fail
        go_ret
        exact ⟨ret_i64 HR.out.symm, HB.out⟩
      | true =>
        have H5 := Aside0.mk h5
        clear h5
        go_enter Try.func25, Try.ntmps25
        go_wp2_with fail
        refine (corner_within.calls _ _ _ true _ (within_yes H3.out.1 H3.out.2)).mono ?_
        rintro e w' ⟨rfl, hd⟩
        obtain ⟨n, rfl⟩ := hd.out
        go_wp2_with fail
        refine (allH _ _ l0_1 _ (Kd.C_below M1.out (pw_below_drewN hB1.out n))).mono ?_
        rw [H5.out]
        rintro e w1 ⟨rfl, hb⟩
        have HB := Aside0.mk ((pw_below_drewN hB1.out n).trans (hb.mono (pw_below_drewN hB1.out n).size))
        have hcell := (hb.cell (p := ⟨w.heap.size, 2, none⟩) (by simp)).trans (by simp : ((w.alloc (.cells #[.int .i64 a0_0, .slice A0_1 l0_1.length c0_1, .slice A0_2 l0_2.length c0_2] 35)).drewN n).cell? ⟨w.heap.size, 2, none⟩ = some (.slice A0_2 l0_2.length c0_2))
        clear hb
        go_wp2_with fail
        refine (allC _ _ _ l0_1 _ _ l0_2 hc0_1 hc0_2 _ _ l0_2 _ (Kd.C_below M1.out HB.out) (Kd.C_below M2.out HB.out) (Kd.C_below M2.out HB.out)).mono ?_
        cases h6 : l0_2.all (vC l0_1.length) with
        | false =>
          have HR : Aside0 (ck a0_0 l0_1 l0_2 = 1) := ⟨by unfold ck; rw [if_neg HN.out, if_pos (.inr (.inr (.inr h6)))]⟩
          clear h6
          rintro e w2 ⟨rfl, hb⟩
          have HB2 := Aside0.mk (HB.out.trans (hb.mono HB.out.size))
          clear hb
          go_wp2_with fail
          go_ret
          exact ⟨ret_i64 HR.out.symm, HB2.out⟩
        | true =>
          have HR : Aside0 (ck a0_0 l0_1 l0_2 = 0) := ⟨by
            unfold ck; rw [if_neg HN.out, if_neg]
            rintro (h | h | h | h)
            · exact h H3.out
            · exact h4 h
            · rw [H5.out] at h; cases h
            · rw [h6] at h; cases h⟩
          clear h6 h4
          rintro e w2 ⟨rfl, hb⟩
          have HB2 := Aside0.mk (HB.out.trans (hb.mono HB.out.size))
          clear hb
          go_wp2_with fail
          go_ret
          exact ⟨ret_i64 HR.out.symm, HB2.out⟩
  · have HR : Aside0 (ck a0_0 l0_1 l0_2 = 1) := ⟨by unfold ck; rw [if_neg hn, if_pos (.inl h3)]⟩
    have H3 := Aside0.mk h3
    clear h3 hn
    go_enter Try.func25, Try.ntmps25
    go_wp2_with fail
    refine (corner_within.calls _ _ _ false _ (within_no H3.out)).mono ?_
    rintro e w' ⟨rfl, hd⟩
    obtain ⟨n, rfl⟩ := hd.out
    go_wp2_with fail
    go_ret
    exact ⟨ret_i64 HR.out.symm, pw_below_drewN ((Below.refl w.heap.size w).alloc (Nat.le_refl _) _) n⟩
end Go.Proofs.Ytgjifkegfbpjkaa.Q
end
