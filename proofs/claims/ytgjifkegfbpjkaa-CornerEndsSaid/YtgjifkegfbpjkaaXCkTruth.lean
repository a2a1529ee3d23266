/- Walks: a truth with an end of the shortage, of package corner. -/
import Derived.Test.YtgjifkegfbpjkaaXCkShort
section
namespace Go.Proofs.Ytgjifkegfbpjkaa.Q
set_option linter.unusedVariables false
open Go.RowKit Go.Maps Go.Proofs.YtgjifkegfbpjkaaW.PrintWords Go.Proofs.YtgjifkegfbpjkaaW.PrintLast Go.Proofs.YtgjifkegfbpjkaaW.PrintMore
def pk (p : Nat → Bool) : Nat → Nat
  | 0 => 0
  | n + 1 => if pk p n < n then pk p n else if p n = true then n else n + 1
theorem pk_le (p : Nat → Bool) : ∀ n, pk p n ≤ n
  | 0 => Nat.le_refl _
  | n + 1 => by
    have := pk_le p n
    unfold pk
    split
    · omega
    · split <;> omega
theorem pk_none (p : Nat → Bool) : ∀ n, (∀ k, k < n → p k = false) → pk p n = n
  | 0, _ => rfl
  | n + 1, h => by
    have := pk_none p n (fun k hk => h k (by omega))
    unfold pk
    rw [this, if_neg (by omega), if_neg (by rw [h n (by omega)]; simp)]
theorem pk_some (p : Nat → Bool) (k : Nat) (hk : p k = true) (h : ∀ j, j < k → p j = false) : ∀ n, k < n → pk p n = k
  | 0, h0 => by omega
  | n + 1, h1 => by
    unfold pk
    by_cases e : k = n
    · subst e
      rw [pk_none p k h, if_neg (by omega), if_pos hk]
    · have := pk_some p k hk h n (by omega)
      rw [this, if_pos (by omega)]
def hit (up : Bool) (cs : List S75) (h : S73) (hs : List S73) (i left : Int) (k : Nat) : Bool :=
  !(lst up cs hs (i + 1) (left - (h.f0.f0 + k)) == nev) && lst up cs hs (i + 1) (left - (h.f0.f0 + k)) + lk up h.f1 (ow cs i + (h.f0.f0 + k)) == lst up cs (h :: hs) i left
def trL (up : Bool) (cs : List S75) : List S73 → Int → Int → List Int
  | [], _, _ => []
  | h :: hs, i, left => (h.f0.f0 + (pk (hit up cs h hs i left) (h.f0.f1 - h.f0.f0).toNat : Nat)) :: trL up cs hs (i + 1) (left - (h.f0.f0 + (pk (hit up cs h hs i left) (h.f0.f1 - h.f0.f0).toNat : Nat)))
theorem cnt_six : ∀ m, m ≤ 6 → cnt m ≤ 329720803006
  | 0, _ => by decide
  | 1, _ => by decide
  | 2, _ => by decide
  | 3, _ => by decide
  | 4, _ => by decide
  | 5, _ => by decide
  | 6, _ => by decide
  | n + 7, h => by omega
theorem grown_after {w W W' : World} {b : Nat} (hg : w.grownBy W (some b)) (hb : Below w.heap.size W W') : w.grownBy W' (some b) :=
  ⟨hb.os.trans hg.os, hb.tape.trans hg.tape, hb.output.trans hg.output, Nat.le_trans hg.size hb.size, fun k hk hne => (hb.block k hk).trans (hg.block k hk hne)⟩
theorem Wk.after {w0 : World} {g b : Nat} {A1 : Option Addr} {c1 : Nat} {hs : List S73} {cs : List S75} {up : Bool} {W W' : World} {B : Nat} (h : Wk w0 g b A1 c1 hs cs up W) (hb : Below B W W') (hB : b < B) (hg : g < B) : Wk w0 g b A1 c1 hs cs up W' := by
  obtain ⟨k1, k2, k3, k4, k5, k6, k7, k8⟩ := h
  exact ⟨(hb.cell hg).trans k1, fun j hj => (hb.cell (p := ⟨g, 3 + j, none⟩) hg).trans (k2 j hj), (hb.cell (p := ⟨g, 9, none⟩) hg).trans k3, (hb.cell (p := ⟨g, 10, none⟩) hg).trans k4, k5.trans (hb.mono (by omega)), Nat.lt_of_lt_of_le k6 hb.size, k7, k8⟩
theorem fin_le (n i k : Nat) (h : n ≤ (201 * i + 1 + k) * 329720803006) (hk : k ≤ 200) : n ≤ 201 * (i + 1) * 329720803006 := Nat.le_trans h (Nat.mul_le_mul_right _ (by omega))
theorem fin3 (n i k c : Nat) (h : n ≤ (201 * i + 1 + k) * 329720803006) (hc : c ≤ 329720803006) : n + c ≤ (201 * i + 1 + (k + 1)) * 329720803006 := by
  have : (201 * i + 1 + (k + 1)) * 329720803006 = (201 * i + 1 + k) * 329720803006 + 329720803006 := by rw [← Nat.add_assoc, Nat.add_mul _ 1, Nat.one_mul]
  rw [this]; exact Nat.add_le_add h hc
theorem own_grown {w w' : World} {row : Option Nat} (hg : w.grownBy w' row) {base : Nat} {v : Value} {l : List Value} {n : Nat} (h : w.ownsRow base 3 1 v n l) (hn : ∀ k, row = some k → k < base) : w'.ownsRow base 3 1 v n l :=
  own_other h hg (by
    cases hv : v.ownBlock with
    | none => exact .inl rfl
    | some k => exact .inr (fun e => by have h1 := own_base h k hv; have h2 := hn k e.symm; omega))
set_option maxHeartbeats 4000000 in
set_option maxRecDepth 100000 in
theorem truth_calls (w0 : World) (g b : Nat) (ex : Int) (A1 : Option Addr) (c1 : Nat) (hs : List S73) (cs : List S75) (up : Bool) (m1 : Kd.C k73 w0 A1 hs.length hs) (hv : ∀ h ∈ hs, vH h = true) (hn : hs.length ≤ 6) (hok : okCs cs) (he : 1 ≤ ex ∧ ex ≤ 200)
    (W : World) (hW : Wk w0 g b A1 c1 hs cs up W) (hM : Memo W b 0 (fun i left => lst up cs (hs.drop i.toNat) i left)) (hx : W.cell? ⟨g, 0, none⟩ = some (.int .i64 ex)) :
    Calls Try.prog 80 #[.pointer (some ⟨g, 0, none⟩)] W fun e W' => ∃ v, e = .returned v ∧ W'.ownsRow W.heap.size 3 1 v (trL up cs hs 0 ex).length (nums .i64 (trL up cs hs 0 ex)) ∧ W.grownBy W' (some b) := by
  have hu35 := Try.underlying35
  have hu73 := Try.underlying73
  have hu157 := Try.underlying157
  have M1 := Aside0.mk m1
  have HV := Aside0.mk hv
  have HOK := Aside0.mk hok
  have HE := Aside0.mk he
  have HW := Aside0.mk hW
  have HM := Aside0.mk hM
  have k1 := hW.c1
  have hgl := hW.lt
  have HBL := Aside0.mk hM.lt
  clear m1 hv hok he hW hM
  go_enter Try.func80, Try.ntmps80
  go_wp2_with fail
  go_loopw [2, 3, 20] (fun v2 v3 v20 wr => ∃ (i : Nat) (left : Int) (pre : List Int) (n : Nat), v20 = .int .i64 i ∧ v3 = .int .i64 left ∧ i ≤ hs.length ∧ -(200 * (i : Int)) ≤ left ∧ left ≤ 200 ∧ Aside0 (pre.length = i) ∧ Aside0 (wr.ownsRow W.heap.size 3 1 v2 pre.length (nums .i64 pre)) ∧ Aside0 (pre ++ trL up cs (hs.drop i) i left = trL up cs hs 0 ex) ∧
      Aside0 (Wk w0 g b A1 c1 hs cs up wr) ∧ Aside0 (Memo wr b n (fun i left => lst up cs (hs.drop i.toNat) i left)) ∧ n ≤ 201 * i * 329720803006 ∧ Aside0 (W.grownBy wr (some b)))
    (fun _ _ v20 _ => hs.length - (intOf v20).toNat)
  case atStart => exact ⟨0, ex, [], 0, rfl, rfl, Nat.zero_le _, by have := HE.out; omega, HE.out.2, ⟨rfl⟩, ⟨own_nil _ _ _ _⟩, ⟨rfl⟩, HW, HM, by omega, ⟨grown_of_below (Below.refl _ _) _⟩⟩
  case round =>
    obtain ⟨i, left, pre, n, rfl, rfl, hil, hl1, hl2, HPL, HO, HP, HWr, HMr, hnb, HG⟩ := hrel
    by_cases hlt : i < hs.length
    · have hil' : (i : Int) < (hs.length : Int) := by omega
      have hi0' : (0 : Int) ≤ (i : Int) := by omega
      have hi6' : (i : Int) < 6 := by omega
      obtain ⟨ad, rfl, h0, h1, h2, h3⟩ := at_T73 (Kd.C_below M1.out HWr.out.bel) (i : Int) (by omega) (by omega)
      obtain ⟨x, HX⟩ : ∃ x, Aside0 (x = rd_T73 hs i) := ⟨_, ⟨rfl⟩⟩
      rw [← HX.out] at h0 h1 h2 h3
      have HXM : Aside0 (x ∈ hs ∧ hs.drop i = x :: hs.drop (i + 1)) := ⟨by
        have e : x = hs[i] := by rw [HX.out, rd_T73_eq, List.getD_eq_getElem?_getD, show (i : Int).toNat = i from by omega, List.getElem?_eq_getElem hlt, Option.getD_some]
        rw [e]; exact ⟨List.getElem_mem _, List.drop_eq_getElem_cons hlt⟩⟩
      rw [show ((i : Int).toNat) = i from by omega] at h0 h1 h2 h3
      go_wp2_with fail
      have hb1 : Below wr.heap.size wr (wr.alloc (.cells #[.int .i64 x.f0.f0, .int .i64 x.f0.f1, .bool x.f1, .int .i64 x.f2] 73)) := (Below.refl _ _).alloc (Nat.le_refl _) _
      have HG1 := Aside0.mk (HG.out.trans (grown_of_below hb1 (some b)))
      have HW1 := Aside0.mk (HWr.out.below hb1)
      have HM1 := Aside0.mk (HMr.out.kept (grown_of_below hb1 none) (by simp))
      have HO1 := Aside0.mk (pw_own_below HO.out hb1)
      have HC1 : Aside0 ((wr.alloc (.cells #[.int .i64 x.f0.f0, .int .i64 x.f0.f1, .bool x.f1, .int .i64 x.f2] 73)).cell? ⟨wr.heap.size, 0, none⟩ = some (.int .i64 x.f0.f0) ∧ (wr.alloc (.cells #[.int .i64 x.f0.f0, .int .i64 x.f0.f1, .bool x.f1, .int .i64 x.f2] 73)).cell? ⟨wr.heap.size, 1, none⟩ = some (.int .i64 x.f0.f1) ∧ (wr.alloc (.cells #[.int .i64 x.f0.f0, .int .i64 x.f0.f1, .bool x.f1, .int .i64 x.f2] 73)).cell? ⟨wr.heap.size, 2, none⟩ = some (.bool x.f1) ∧ (wr.alloc (.cells #[.int .i64 x.f0.f0, .int .i64 x.f0.f1, .bool x.f1, .int .i64 x.f2] 73)).cell? ⟨wr.heap.size, 3, none⟩ = some (.int .i64 x.f2)) := ⟨by simp, by simp, by simp, by simp⟩
      have hxb : g < wr.heap.size ∧ b < wr.heap.size ∧ W.heap.size ≤ wr.heap.size := ⟨HWr.out.lt, HMr.out.lt, HG.out.size⟩
      obtain ⟨hxb1, hxb2, hxb3⟩ := hxb
      clear hb1 h0 h1 h2 h3 HO HWr HMr HG
      generalize wr.alloc (.cells #[.int .i64 x.f0.f0, .int .i64 x.f0.f1, .bool x.f1, .int .i64 x.f2] 73) = W1 at *
      generalize wr.heap.size = xb at *
      have hcm := cnt_six (hs.length - i) (by omega)
      have hcm1 := cnt_six (hs.length - (i + 1)) (by omega)
      refine (least_calls w0 g b _ c1 hs cs up M1.out HV.out hn HOK.out (hs.length - i) i _ left n _ rfl (by omega) (by omega) hl2 (by omega) HW1.out HM1.out).mono ?_
      rintro e w5 ⟨rfl, hm5, hg5⟩
      have HG5 := Aside0.mk (HG1.out.trans hg5)
      have HW5 := Aside0.mk (HW1.out.grown hg5)
      have HM5 := Aside0.mk hm5
      have HO5 := Aside0.mk (own_grown hg5 HO1.out (fun k hk => by injection hk with hk; have := HBL.out; omega))
      have HC5 : Aside0 (_ ∧ _ ∧ _ ∧ _) := ⟨grown_cell hg5 HC1.out.1 (by intro e; injection e with e; simp at e; omega), grown_cell hg5 HC1.out.2.1 (by intro e; injection e with e; simp at e; omega), grown_cell hg5 HC1.out.2.2.1 (by intro e; injection e with e; simp at e; omega), grown_cell hg5 HC1.out.2.2.2 (by intro e; injection e with e; simp at e; omega)⟩
      clear hm5 hg5 HC1 HO1 HM1 HW1 HG1
      obtain ⟨bst, HBST⟩ : ∃ r, Aside0 (r = lst up cs (hs.drop i) i left) := ⟨_, ⟨rfl⟩⟩
      rw [← HBST.out]
      have hvx := (vH_iff x).1 (HV.out x HXM.out.1)
      obtain ⟨p0, p1, p2, _, _⟩ := hvx
      have x0 := HC5.out.1
      go_wp2_with fail
      obtain ⟨wo, rfl⟩ : ∃ wo : World, wo = w5 := ⟨_, rfl⟩
      clear x0
      go_loopw [7] (fun v7 wr => ∃ (k : Nat) (n : Nat), v7 = .int .i64 (x.f0.f0 + k) ∧ x.f0.f0 + (k : Int) ≤ x.f0.f1 ∧ Aside0 (∀ j, j < k → hit up cs x (hs.drop (i + 1)) i left j = false) ∧ Aside0 (wr.ownsRow W.heap.size 3 1 u2 pre.length (nums .i64 pre)) ∧
          Aside0 (Wk w0 g b (some ad) c1 hs cs up wr) ∧ Aside0 (Memo wr b n (fun i left => lst up cs (hs.drop i.toNat) i left)) ∧ n ≤ (201 * i + 1 + k) * 329720803006 ∧ Aside0 (W.grownBy wr (some b)) ∧
          Aside0 (wr.cell? ⟨xb, 0, none⟩ = some (.int .i64 x.f0.f0) ∧ wr.cell? ⟨xb, 1, none⟩ = some (.int .i64 x.f0.f1) ∧ wr.cell? ⟨xb, 2, none⟩ = some (.bool x.f1) ∧ wr.cell? ⟨xb, 3, none⟩ = some (.int .i64 x.f2)))
        (fun v7 _ => (x.f0.f1 - intOf v7).toNat)
      case atStart => exact ⟨0, _, by simp, by omega, ⟨fun j hj => absurd hj (Nat.not_lt_zero _)⟩, HO5, HW5, HM5, by omega, HG5, HC5⟩
      case round =>
        obtain ⟨k, n2, rfl, hkh, HH, HOi, HWi, HMi, hn2, HGi, HCi⟩ := hrel
        obtain ⟨x0, x1, x2, x3⟩ := HCi.out
        by_cases hkl : x.f0.f0 + (k : Int) < x.f0.f1
        · go_wp2_with fail
          have hrb := lst_bound up cs (hs.drop (i + 1)) (i + 1) (left - (x.f0.f0 + k)) (fun h hh => HV.out h (List.mem_of_mem_drop hh)) HOK.out
          have hdl : (hs.drop (i + 1)).length ≤ 6 := by rw [List.length_drop]; omega
          have hmu : (201 * i + 1 + k) * 329720803006 + 329720803006 ≤ 1000000000000000 := by omega
          refine (least_calls w0 g b _ c1 hs cs up M1.out HV.out hn HOK.out (hs.length - (i + 1)) (i + 1) _ _ n2 _ (by omega) (by omega) (by omega) (by omega) (by omega) HWi.out HMi.out).mono ?_
          rintro e w6 ⟨rfl, hm6, hg6⟩
          have HG6 := Aside0.mk (HGi.out.trans hg6)
          have HW6 := Aside0.mk (HWi.out.grown hg6)
          have HM6 := Aside0.mk hm6
          have HO6 := Aside0.mk (own_grown hg6 HOi.out (fun k hk => by injection hk with hk; have := HBL.out; omega))
          have z0 := grown_cell hg6 x0 (by intro e; injection e with e; simp at e; omega)
          have z1 := grown_cell hg6 x1 (by intro e; injection e with e; simp at e; omega)
          have z2 := grown_cell hg6 x2 (by intro e; injection e with e; simp at e; omega)
          have z3 := grown_cell hg6 x3 (by intro e; injection e with e; simp at e; omega)
          have HGW6 := Aside0.mk hg6
          clear hm6 hg6 HCi HMi HWi HGi HOi x0 x1 x2 x3
          obtain ⟨r, HR⟩ : ∃ r, Aside0 (r = lst up cs (hs.drop (i + 1)) (i + 1) (left - (x.f0.f0 + k))) := ⟨_, ⟨rfl⟩⟩
          rw [← HR.out] at hrb ⊢
          have hr1 : -12000 ≤ r := by omega
          have hr2 : r ≤ 1048576 := hrb.2
          clear hrb hdl
          by_cases hre : r = 1048576
          · have hrb : (r != 1048576) = false := bne_eq_false_iff_eq.mpr hre
            have HRE := Aside0.mk hre
            clear hre
            go_wp2_with fail
            go_quiet (fail)
            go_wp2_with fail
            have hfin3 := fin3 n2 i k _ hn2 hcm1
            go_roundw
            case rel =>
              refine ⟨k + 1, _, by go_num, by omega, ⟨fun j hj => ?_⟩, ⟨pw_own_below HO6.out (pw_below_drewN (Below.refl _ _) nq)⟩, ⟨HW6.out.below (pw_below_drewN (Below.refl _ _) nq)⟩, ⟨HM6.out.kept (grown_of_below (pw_below_drewN (Below.refl _ _) nq) none) (by simp)⟩, hfin3, ⟨HG6.out.trans (grown_of_below (pw_below_drewN (Below.refl _ _) nq) _)⟩, ⟨pw_cell_below (pw_below_drewN (Below.refl _ _) nq) z0, pw_cell_below (pw_below_drewN (Below.refl _ _) nq) z1, pw_cell_below (pw_below_drewN (Below.refl _ _) nq) z2, pw_cell_below (pw_below_drewN (Below.refl _ _) nq) z3⟩⟩
              by_cases hjk : j < k
              · exact HH.out j hjk
              · obtain rfl : j = k := by omega
                unfold hit
                rw [← HR.out, HRE.out]
                rfl
            case measure => simp [intOf]; omega
          · have hrb : (r != 1048576) = true := bne_iff_ne.mpr hre
            have HRE := Aside0.mk hre
            clear hre
            have hfin3 := fin3 n2 i k _ hn2 hcm1
            have hfin2 := fin_le _ i (k + 1) hfin3 (by omega)
            have hob := ow_bound cs i (fun c hc => by have := HOK.out.2 c hc; omega)
            have hol := HOK.out.1
            obtain ⟨q, HQ⟩ : ∃ q, Aside0 (q = ow cs i + (x.f0.f0 + k)) := ⟨_, ⟨rfl⟩⟩
            have hq : -2000 ≤ q ∧ q ≤ 2000 := by rw [HQ.out]; omega
            have hlb := lk_bound up x.f1 q 2000 hq.1 hq.2
            have LF := Aside0.mk (lack_f up x.f0.f0 x.f0.f1 x.f1 x.f2 q (by omega) (by omega))
            obtain ⟨u, HU⟩ : ∃ u, Aside0 (u = lk up x.f1 q) := ⟨_, ⟨rfl⟩⟩
            rw [← HU.out] at hlb LF
            have ew3 : IntKind.i64.wrap (ow cs i + (x.f0.f0 + k)) = q := by rw [← HQ.out]; exact wrap_in (by omega) (by omega)
            have ew4 : IntKind.i64.wrap (r + u) = r + u := wrap_in (by omega) (by omega)
            clear hob hol hq hlb
            have kF := HW6.out.cF
            have kO := HW6.out.cO i (by omega)
            have HFIN : ∀ W', Below w6.heap.size w6 W' → W.grownBy W' (some b) ∧ Wk w0 g b (some ad) c1 hs cs up W' ∧ Memo W' b (n2 + cnt (hs.length - (i + 1))) (fun i left => lst up cs (hs.drop i.toNat) i left) ∧ W'.ownsRow W.heap.size 3 1 u2 pre.length (nums .i64 pre) ∧
                (W'.cell? ⟨xb, 0, none⟩ = some (.int .i64 x.f0.f0) ∧ W'.cell? ⟨xb, 1, none⟩ = some (.int .i64 x.f0.f1) ∧ W'.cell? ⟨xb, 2, none⟩ = some (.bool x.f1) ∧ W'.cell? ⟨xb, 3, none⟩ = some (.int .i64 x.f2)) := by
              intro W' hbw
              exact ⟨HG6.out.trans (grown_of_below hbw _), HW6.out.below hbw, HM6.out.kept (grown_of_below hbw none) (by simp), pw_own_below HO6.out hbw, pw_cell_below hbw z0, pw_cell_below hbw z1, pw_cell_below hbw z2, pw_cell_below hbw z3⟩
            replace HFIN := Aside0.mk HFIN
            have HB5 := Aside0.mk (below_drew (Below.refl w6.heap.size w6))
            go_wp2_with fail
            cases up with
            | false =>
              simp only [Bool.false_eq_true, if_false] at LF kF
              by_cases hh : r + u = bst
              · have hhb : (r + u == bst) = true := by simp [hh]
                have HHB := Aside0.mk hh
                clear hh
                go_region_held3 (fun w' => w'.cell? ⟨g, 9, none⟩ = some (.func (.func 77) #[] #[]) ∧ w'.cell? ⟨xb, 0, none⟩ = some (.int .i64 x.f0.f0) ∧ w'.cell? ⟨xb, 1, none⟩ = some (.int .i64 x.f0.f1) ∧ w'.cell? ⟨xb, 2, none⟩ = some (.bool x.f1) ∧ w'.cell? ⟨xb, 3, none⟩ = some (.int .i64 x.f2) ∧ w'.cell? ⟨g, 3 + i, none⟩ = some (.int .i64 (ow cs i)))
                  (first | go_keep | exact ⟨pw_cell_below hb6 kF, pw_cell_below hb6 z0, pw_cell_below hb6 z1, pw_cell_below hb6 z2, pw_cell_below hb6 z3, pw_cell_below hb6 kO⟩)
                  (first
                    | (go_at_call 77; refine (corner_House_short.calls _ _ _ _ _ _ _ LF.out).mono ?_; rintro e w7 ⟨rfl, hb6⟩; have HB6 := Aside0.mk (HB5.out.trans (hb6.mono (by simp))); replace hb6 := HB6.out))
                obtain ⟨F1, F2, F3, F4, F5⟩ := HFIN.out _ HB6.out
                replace F1 := Aside0.mk F1
                replace F2 := Aside0.mk F2
                replace F3 := Aside0.mk F3
                replace F4 := Aside0.mk F4
                clear F5
                clear HFIN HB5 HB6 hb6 z0 z1 z2 z3 kF kO ew3 ew4 LF
                have hszR : W.heap.size ≤ w7.heap.size := F1.out.size
                have hpl6 : pre.length ≤ 6 := by have := HPL.out; omega
                have ewl : IntKind.i64.wrap (left - (x.f0.f0 + (k : Int))) = left - (x.f0.f0 + (k : Int)) := wrap_in (by omega) (by omega)
                have hbo : b < W.heap.size := HBL.out
                have HNO : Aside0 (some b ≠ u2.ownBlock) := ⟨fun e => by have := own_base F4.out b e.symm; omega⟩
                go_wp2_with (first
                  | ((with_reducible refine gate_builtin (b := .append) (xs := #[.tmp 71, .tmp 73]) rfl ?_); at_builtin; refine print_append_num (w0 := w7) W.heap.size rfl (.tmp 71) (.tmp 73) 26 3 .i64 8 rfl Try.underlying26 info3 (by decide) u2 pre (x.f0.f0 + (k : Int)) rfl rfl F4.out (Below.refl _ _) hszR (by omega) ?_; intro v1 w1 ho hb hg hat; have HO1 := Aside0.mk ho; have HB1 := Aside0.mk hb; have HGA := Aside0.mk hg; clear ho hb hg hat))
                have HN : pk (hit false cs x (hs.drop (i + 1)) i left) (x.f0.f1 - x.f0.f0).toNat = k := by
                  refine pk_some _ k ?_ (fun j hj => HH.out j hj) _ (by omega)
                  unfold hit
                  rw [← HR.out, ← HXM.out.2, ← HBST.out, ← HQ.out, ← HU.out, HHB.out]
                  simp [nev, HRE.out]
                go_roundw
                case rel =>
                  refine ⟨i + 1, _, pre ++ [x.f0.f0 + (k : Int)], _, by go_num, rfl, by omega, by omega, by omega, ⟨by have := HPL.out; simp; omega⟩, HO1, ⟨?_⟩, ⟨?_⟩, ⟨F3.out.kept HGA.out HNO.out⟩, hfin2, ⟨?_⟩⟩
                  · rw [← HP.out, HXM.out.2, trL, HN]; simp
                  · exact F2.out.after HB1.out hbo hgl
                  · exact grown_after F1.out HB1.out
                case measure => simp [intOf]; omega
              · have hhb : (r + u == bst) = false := beq_eq_false_iff_ne.2 hh
                have HHB := Aside0.mk hh
                clear hh
                go_region_held3 (fun w' => w'.cell? ⟨g, 9, none⟩ = some (.func (.func 77) #[] #[]) ∧ w'.cell? ⟨xb, 0, none⟩ = some (.int .i64 x.f0.f0) ∧ w'.cell? ⟨xb, 1, none⟩ = some (.int .i64 x.f0.f1) ∧ w'.cell? ⟨xb, 2, none⟩ = some (.bool x.f1) ∧ w'.cell? ⟨xb, 3, none⟩ = some (.int .i64 x.f2) ∧ w'.cell? ⟨g, 3 + i, none⟩ = some (.int .i64 (ow cs i)))
                  (first | go_keep | exact ⟨pw_cell_below hb6 kF, pw_cell_below hb6 z0, pw_cell_below hb6 z1, pw_cell_below hb6 z2, pw_cell_below hb6 z3, pw_cell_below hb6 kO⟩)
                  (first
                    | (go_at_call 77; refine (corner_House_short.calls _ _ _ _ _ _ _ LF.out).mono ?_; rintro e w7 ⟨rfl, hb6⟩; have HB6 := Aside0.mk (HB5.out.trans (hb6.mono (by simp))); replace hb6 := HB6.out))
                go_wp2_with fail
                obtain ⟨F1, F2, F3, F4, F5⟩ := HFIN.out _ HB6.out
                go_roundw
                case rel =>
                  refine ⟨k + 1, _, by go_num, by omega, ⟨fun j hj => ?_⟩, ⟨F4⟩, ⟨F2⟩, ⟨F3⟩, hfin3, ⟨F1⟩, ⟨F5⟩⟩
                  by_cases hjk : j < k
                  · exact HH.out j hjk
                  · obtain rfl : j = k := by omega
                    unfold hit
                    rw [← HR.out, ← HXM.out.2, ← HBST.out, ← HQ.out, ← HU.out, beq_eq_false_iff_ne.2 HHB.out, Bool.and_false]
                case measure => simp [intOf]; omega
            | true =>
              simp only [if_true] at LF kF
              by_cases hh : r + u = bst
              · have hhb : (r + u == bst) = true := by simp [hh]
                have HHB := Aside0.mk hh
                clear hh
                go_region_held3 (fun w' => w'.cell? ⟨g, 9, none⟩ = some (.func (.func 78) #[] #[]) ∧ w'.cell? ⟨xb, 0, none⟩ = some (.int .i64 x.f0.f0) ∧ w'.cell? ⟨xb, 1, none⟩ = some (.int .i64 x.f0.f1) ∧ w'.cell? ⟨xb, 2, none⟩ = some (.bool x.f1) ∧ w'.cell? ⟨xb, 3, none⟩ = some (.int .i64 x.f2) ∧ w'.cell? ⟨g, 3 + i, none⟩ = some (.int .i64 (ow cs i)))
                  (first | go_keep | exact ⟨pw_cell_below hb6 kF, pw_cell_below hb6 z0, pw_cell_below hb6 z1, pw_cell_below hb6 z2, pw_cell_below hb6 z3, pw_cell_below hb6 kO⟩)
                  (first
                    | (go_at_call 78; refine (corner_House_surplus.calls _ _ _ _ _ _ _ LF.out).mono ?_; rintro e w7 ⟨rfl, hb6⟩; have HB6 := Aside0.mk (HB5.out.trans (hb6.mono (by simp))); replace hb6 := HB6.out))
                obtain ⟨F1, F2, F3, F4, F5⟩ := HFIN.out _ HB6.out
                replace F1 := Aside0.mk F1
                replace F2 := Aside0.mk F2
                replace F3 := Aside0.mk F3
                replace F4 := Aside0.mk F4
                clear F5
                clear HFIN HB5 HB6 hb6 z0 z1 z2 z3 kF kO ew3 ew4 LF
                have hszR : W.heap.size ≤ w7.heap.size := F1.out.size
                have hpl6 : pre.length ≤ 6 := by have := HPL.out; omega
                have ewl : IntKind.i64.wrap (left - (x.f0.f0 + (k : Int))) = left - (x.f0.f0 + (k : Int)) := wrap_in (by omega) (by omega)
                have hbo : b < W.heap.size := HBL.out
                have HNO : Aside0 (some b ≠ u2.ownBlock) := ⟨fun e => by have := own_base F4.out b e.symm; omega⟩
                go_wp2_with (first
                  | ((with_reducible refine gate_builtin (b := .append) (xs := #[.tmp 71, .tmp 73]) rfl ?_); at_builtin; refine print_append_num (w0 := w7) W.heap.size rfl (.tmp 71) (.tmp 73) 26 3 .i64 8 rfl Try.underlying26 info3 (by decide) u2 pre (x.f0.f0 + (k : Int)) rfl rfl F4.out (Below.refl _ _) hszR (by omega) ?_; intro v1 w1 ho hb hg hat; have HO1 := Aside0.mk ho; have HB1 := Aside0.mk hb; have HGA := Aside0.mk hg; clear ho hb hg hat))
                have HN : pk (hit true cs x (hs.drop (i + 1)) i left) (x.f0.f1 - x.f0.f0).toNat = k := by
                  refine pk_some _ k ?_ (fun j hj => HH.out j hj) _ (by omega)
                  unfold hit
                  rw [← HR.out, ← HXM.out.2, ← HBST.out, ← HQ.out, ← HU.out, HHB.out]
                  simp [nev, HRE.out]
                go_roundw
                case rel =>
                  refine ⟨i + 1, _, pre ++ [x.f0.f0 + (k : Int)], _, by go_num, rfl, by omega, by omega, by omega, ⟨by have := HPL.out; simp; omega⟩, HO1, ⟨?_⟩, ⟨?_⟩, ⟨F3.out.kept HGA.out HNO.out⟩, hfin2, ⟨?_⟩⟩
                  · rw [← HP.out, HXM.out.2, trL, HN]; simp
                  · exact F2.out.after HB1.out hbo hgl
                  · exact grown_after F1.out HB1.out
                case measure => simp [intOf]; omega
              · have hhb : (r + u == bst) = false := beq_eq_false_iff_ne.2 hh
                have HHB := Aside0.mk hh
                clear hh
                go_region_held3 (fun w' => w'.cell? ⟨g, 9, none⟩ = some (.func (.func 78) #[] #[]) ∧ w'.cell? ⟨xb, 0, none⟩ = some (.int .i64 x.f0.f0) ∧ w'.cell? ⟨xb, 1, none⟩ = some (.int .i64 x.f0.f1) ∧ w'.cell? ⟨xb, 2, none⟩ = some (.bool x.f1) ∧ w'.cell? ⟨xb, 3, none⟩ = some (.int .i64 x.f2) ∧ w'.cell? ⟨g, 3 + i, none⟩ = some (.int .i64 (ow cs i)))
                  (first | go_keep | exact ⟨pw_cell_below hb6 kF, pw_cell_below hb6 z0, pw_cell_below hb6 z1, pw_cell_below hb6 z2, pw_cell_below hb6 z3, pw_cell_below hb6 kO⟩)
                  (first
                    | (go_at_call 78; refine (corner_House_surplus.calls _ _ _ _ _ _ _ LF.out).mono ?_; rintro e w7 ⟨rfl, hb6⟩; have HB6 := Aside0.mk (HB5.out.trans (hb6.mono (by simp))); replace hb6 := HB6.out))
                go_wp2_with fail
                obtain ⟨F1, F2, F3, F4, F5⟩ := HFIN.out _ HB6.out
                go_roundw
                case rel =>
                  refine ⟨k + 1, _, by go_num, by omega, ⟨fun j hj => ?_⟩, ⟨F4⟩, ⟨F2⟩, ⟨F3⟩, hfin3, ⟨F1⟩, ⟨F5⟩⟩
                  by_cases hjk : j < k
                  · exact HH.out j hjk
                  · obtain rfl : j = k := by omega
                    unfold hit
                    rw [← HR.out, ← HXM.out.2, ← HBST.out, ← HQ.out, ← HU.out, beq_eq_false_iff_ne.2 HHB.out, Bool.and_false]
                case measure => simp [intOf]; omega
        · have hkeq : x.f0.f0 + (k : Int) = x.f0.f1 := by omega
          have hszR : W.heap.size ≤ wr.heap.size := HGi.out.size
          have hk2 : k ≤ 200 := by omega
          have hfin := fin_le n2 i k hn2 hk2
          have hpl6 : pre.length ≤ 6 := by have := HPL.out; omega
          have ewl : IntKind.i64.wrap (left - x.f0.f1) = left - x.f0.f1 := wrap_in (by omega) (by omega)
          have hbo : b < W.heap.size := HBL.out
          have HNO : Aside0 (some b ≠ u2.ownBlock) := ⟨fun e => by have := own_base HOi.out b e.symm; omega⟩
          go_wp2_with (first
            | ((with_reducible refine gate_builtin (b := .append) (xs := #[.tmp 71, .tmp 73]) rfl ?_); at_builtin; refine print_append_num (w0 := wr) W.heap.size rfl (.tmp 71) (.tmp 73) 26 3 .i64 8 rfl Try.underlying26 info3 (by decide) u2 pre x.f0.f1 rfl rfl HOi.out (Below.refl _ _) hszR (by omega) ?_; intro v1 w1 ho hb hg hat; have HO1 := Aside0.mk ho; have HB1 := Aside0.mk hb; have HGA := Aside0.mk hg; clear ho hb hg hat))
          have HN : pk (hit up cs x (hs.drop (i + 1)) i left) (x.f0.f1 - x.f0.f0).toNat = k := by
            rw [pk_none _ _ (fun j hj => HH.out j (by omega))]; omega
          go_roundw
          case rel =>
            refine ⟨i + 1, _, pre ++ [x.f0.f1], n2, by go_num, rfl, by omega, by omega, by omega, ⟨by have := HPL.out; simp; omega⟩, HO1, ⟨?_⟩, ⟨?_⟩, ⟨?_⟩, hfin, ⟨?_⟩⟩
            · rw [← HP.out, HXM.out.2, trL, HN, hkeq]; simp
            · exact HWi.out.after HB1.out hbo hgl
            · exact HMi.out.kept HGA.out (HNO.out)
            · exact grown_after HGi.out HB1.out
          case measure => simp [intOf]; omega
    · obtain rfl : i = hs.length := by omega
      go_wp2_with fail
      go_ret
      refine ⟨_, rfl, ?_, HG.out⟩
      have := HO.out
      have hp := HP.out
      rw [List.drop_length, trL, List.append_nil] at hp
      rw [hp] at this
      exact this
end Go.Proofs.Ytgjifkegfbpjkaa.Q
end
