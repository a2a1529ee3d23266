/- Walks: a market without the holdings of some houses, of package corner. -/
import Derived.Test.YtgjifkegfbpjkaaXCkKeep
import Derived.Test.YtgjifkegfbpjkaaXSmall
section
namespace Go.Proofs.Ytgjifkegfbpjkaa.Q
set_option linter.unusedVariables false
open Go.RowKit Go.Maps Go.Proofs.YtgjifkegfbpjkaaW.PrintWords Go.Proofs.YtgjifkegfbpjkaaW.PrintLast Go.Proofs.YtgjifkegfbpjkaaW.PrintMore
def wo1 (ex : Int) (h : S73) : S73 := ⟨⟨0, ex⟩, h.f1, h.f2⟩
def woP (ex : Int) (hs : List S73) (i : Int) : List S73 := hs.set i.toNat (wo1 ex (hs.getD i.toNat z73))
def woL (ex : Int) (hs : List S73) (l : List Int) : List S73 := l.foldl (woP ex) hs
theorem woL_length (ex : Int) (l : List Int) : ∀ hs, (woL ex hs l).length = hs.length := by
  induction l with
  | nil => intro hs; rfl
  | cons i l ih => intro hs; show (woL ex (woP ex hs i) l).length = _; rw [ih]; simp [woP]
theorem woL_snoc (ex : Int) (hs : List S73) (l : List Int) (i : Int) : woL ex hs (l ++ [i]) = woP ex (woL ex hs l) i := by simp [woL, List.foldl_append]
theorem woP_vH (ex : Int) (he : 1 ≤ ex ∧ ex ≤ 200) (hs : List S73) (i : Int) (h : ∀ x ∈ hs, vH x = true) : ∀ x ∈ woP ex hs i, vH x = true := by
  intro x hx
  unfold woP at hx
  by_cases hi : i.toNat < hs.length
  · rcases List.mem_or_eq_of_mem_set hx with hx | rfl
    · exact h x hx
    · rw [List.getD_eq_getElem?_getD, List.getElem?_eq_getElem hi, Option.getD_some]
      have := h _ (List.getElem_mem hi)
      rw [vH_iff] at this ⊢
      simp only [wo1]
      omega
  · rw [List.set_eq_of_length_le (by omega)] at hx
    exact h x hx
theorem woL_vH (ex : Int) (he : 1 ≤ ex ∧ ex ≤ 200) (l : List Int) : ∀ hs, (∀ x ∈ hs, vH x = true) → ∀ x ∈ woL ex hs l, vH x = true := by
  induction l with
  | nil => intro hs h; exact h
  | cons i l ih => intro hs h; exact ih _ (woP_vH ex he hs i h)
section
variable {W : World} {base g n cap : Nat} {xs : List S73}
theorem R73_seg (h : Kd.R k73 73 W base (fun _ => True) (.slice (some ⟨g, 0, none⟩) n cap) xs) (i : Int) (h0 : 0 ≤ i) (h1 : i < (n : Int)) (j : Nat) (hj : j < 4) (v : Value) (x' : S73)
    (hx : ([.int .i64 x'.f0.f0, .int .i64 x'.f0.f1, .bool x'.f1, .int .i64 x'.f2] : List Value) = [.int .i64 (rd_T73 xs i).f0.f0, .int .i64 (rd_T73 xs i).f0.f1, .bool (rd_T73 xs i).f1, .int .i64 (rd_T73 xs i).f2].take j ++ [v] ++ [.int .i64 (rd_T73 xs i).f0.f0, .int .i64 (rd_T73 xs i).f0.f1, .bool (rd_T73 xs i).f1, .int .i64 (rd_T73 xs i).f2].drop (j + 1)) :
    (∃ y, W.cell? ⟨g, i.toNat * 4 + j, none⟩ = some y) ∧ Kd.R k73 73 (W.setCell ⟨g, i.toNat * 4 + j, none⟩ v) base (fun _ => True) (.slice (some ⟨g, 0, none⟩) n cap) (xs.set i.toNat x') ∧ W.grownBy (W.setCell ⟨g, i.toNat * 4 + j, none⟩ v) (some g) := by
  have hr := Kd.R_reads' h
  obtain ⟨ad, e, c0, c1, c2, c3⟩ := at_T73 hr.2.2 i h0 (by omega)
  injection e with e
  subst e
  simp only [add_plain] at c0 c1 c2 c3
  have hcc : ∀ (j : Nat) (u : Value), ([.int .i64 (rd_T73 xs i).f0.f0, .int .i64 (rd_T73 xs i).f0.f1, .bool (rd_T73 xs i).f1, .int .i64 (rd_T73 xs i).f2] : List Value)[j]? = some u → W.cell? ⟨g, i.toNat * k73.sz + j, none⟩ = some u := by
    intro j u hu
    match j, hu with
    | 0, hu => cases hu; exact c0
    | 1, hu => cases hu; exact c1
    | 2, hu => cases hu; exact c2
    | 3, hu => cases hu; exact c3
  have := Kd.R_seg (x' := x') (okp := fun _ => False) (seg := [v]) (j := j) h i h0 h1 rfl hcc (by show j + 1 ≤ 4; omega) (by have hm := k73_mkM W base (fun _ => False) x'; rw [hx] at hm; exact hm) (fun _ h => h.elim)
  refine ⟨?_, this.1, this.2⟩
  match j, hj with
  | 0, _ => exact ⟨_, c0⟩
  | 1, _ => exact ⟨_, c1⟩
  | 2, _ => exact ⟨_, c2⟩
  | 3, _ => exact ⟨_, c3⟩
theorem R73_wo (ex : Int) (h : Kd.R k73 73 W base (fun _ => True) (.slice (some ⟨g, 0, none⟩) n cap) xs) (i : Int) (h0 : 0 ≤ i) (h1 : i < (n : Int)) :
    (∃ y, W.cell? ⟨g, i.toNat * 4, none⟩ = some y) ∧ (∃ y, W.cell? ⟨g, i.toNat * 4 + 1, none⟩ = some y) ∧ Kd.R k73 73 ((W.setCell ⟨g, i.toNat * 4, none⟩ (.int .i64 0)).setCell ⟨g, i.toNat * 4 + 1, none⟩ (.int .i64 ex)) base (fun _ => True) (.slice (some ⟨g, 0, none⟩) n cap) (woP ex xs i) := by
  have hl : xs.length = n := (Kd.R_reads' h).1.symm
  have hil : i.toNat < xs.length := by omega
  obtain ⟨a1, a2, a3⟩ := R73_seg h i h0 h1 0 (by omega) (.int .i64 0) ⟨⟨0, (rd_T73 xs i).f0.f1⟩, (rd_T73 xs i).f1, (rd_T73 xs i).f2⟩ rfl
  obtain ⟨b1, _, _⟩ := R73_seg h i h0 h1 1 (by omega) (.int .i64 0) ⟨⟨(rd_T73 xs i).f0.f0, 0⟩, (rd_T73 xs i).f1, (rd_T73 xs i).f2⟩ rfl
  have e : rd_T73 (xs.set i.toNat ⟨⟨0, (rd_T73 xs i).f0.f1⟩, (rd_T73 xs i).f1, (rd_T73 xs i).f2⟩) i = ⟨⟨0, (rd_T73 xs i).f0.f1⟩, (rd_T73 xs i).f1, (rd_T73 xs i).f2⟩ := by
    rw [rd_T73_eq, List.getD_eq_getElem?_getD, List.getElem?_set_self hil, Option.getD_some]
  obtain ⟨_, c2, _⟩ := R73_seg a2 i h0 h1 1 (by omega) (.int .i64 ex) (wo1 ex (rd_T73 xs i)) (by rw [e]; rfl)
  rw [List.set_set] at c2
  exact ⟨a1, b1, c2⟩
end
theorem res86 {W : World} {g : Nat} {p0 : Int} {p1 p2 : Value} (h0 : W.cell? ⟨g, 0, none⟩ = some (.int .i64 p0)) (h1 : W.cell? ⟨g, 1, none⟩ = some p1) (h2 : W.cell? ⟨g, 2, none⟩ = some p2) (t : Array Value) (ht : t[4]? = some (.pointer (some ⟨g, 0, none⟩))) :
    (results Try.f86 t).run Try.prog W = .ok (.agg #[.int .i64 p0, p1, p2]) W := by
  simp [results, Try.results86, go_sem, ht, h0, h1, h2]
structure WSt (w : World) (ex : Int) (n : Nat) (gv cap : Nat) (A2 : Option Addr) (m c2 : Nat) (xs : List S73) (W : World) : Prop where
  x0 : W.cell? ⟨w.heap.size, 0, none⟩ = some (.int .i64 ex)
  x1 : W.cell? ⟨w.heap.size, 1, none⟩ = some (.slice (some ⟨gv, 0, none⟩) n cap)
  x2 : W.cell? ⟨w.heap.size, 2, none⟩ = some (.slice A2 m c2)
  y0 : W.cell? ⟨w.heap.size + 1, 0, none⟩ = some (.int .i64 0)
  y1 : W.cell? ⟨w.heap.size + 1, 1, none⟩ = some (.slice none 0 0)
  y2 : W.cell? ⟨w.heap.size + 1, 2, none⟩ = some (.slice none 0 0)
  f0 : W.frozen? ⟨w.heap.size + 1, 0, none⟩ = false
  f1 : W.frozen? ⟨w.heap.size + 1, 1, none⟩ = false
  f2 : W.frozen? ⟨w.heap.size + 1, 2, none⟩ = false
  sz : w.heap.size + 1 < W.heap.size
  r : Kd.R k73 73 W (w.heap.size + 2) (fun _ => True) (.slice (some ⟨gv, 0, none⟩) n cap) xs
  bel : Below w.heap.size w W
theorem WSt.put {w W : World} {ex : Int} {n gv cap : Nat} {A2 : Option Addr} {m c2 : Nat} {xs : List S73} (h : WSt w ex n gv cap A2 m c2 xs W) (i : Int) (h0 : 0 ≤ i) (h1 : i < (n : Int)) : WSt w ex n gv cap A2 m c2 (woP ex xs i) ((W.setCell ⟨gv, i.toNat * 4, none⟩ (.int .i64 0)).setCell ⟨gv, i.toNat * 4 + 1, none⟩ (.int .i64 ex)) := by
  obtain ⟨x0, x1, x2, y0, y1, y2, f0, f1, f2, sz, r, bel⟩ := h
  have hg : w.heap.size + 2 ≤ gv := Kd.R_base r gv (by simp [Value.ownBlock])
  have hc := R73_wo ex r i h0 h1
  refine ⟨?_, ?_, ?_, ?_, ?_, ?_, by rw [World.frozen?_setCell, World.frozen?_setCell]; exact f0, by rw [World.frozen?_setCell, World.frozen?_setCell]; exact f1, by rw [World.frozen?_setCell, World.frozen?_setCell]; exact f2, by rw [World.size_setCell, World.size_setCell]; exact sz, hc.2.2, (bel.setCell (p := ⟨gv, i.toNat * 4, none⟩) (by simp; omega) _).setCell (p := ⟨gv, i.toNat * 4 + 1, none⟩) (by simp; omega) _⟩ <;> rw [World.cell?_setCell_far _ _ _ _ (by simp; omega), World.cell?_setCell_far _ _ _ _ (by simp; omega)] <;> assumption
set_option maxHeartbeats 2000000 in
set_option maxRecDepth 100000 in
theorem without_calls (ex : Int) (A1 : Option Addr) (c1 : Nat) (hs : List S73) (A2 : Option Addr) (c2 : Nat) (cs : List S75) (A3 : Option Addr) (c3 : Nat) (l : List Int) (w : World) (m1 : Kd.C k73 w A1 hs.length hs) (m2 : Kd.C k75 w A2 cs.length cs) (m3 : Kd.C (Kd.int .i64) w A3 l.length l) (hok : okCs cs) (hv : ∀ h ∈ hs, vH h = true) (hn : hs.length ≤ 6) (hn0 : 0 < hs.length) (he : 1 ≤ ex ∧ ex ≤ 200) (hl : ∀ i ∈ l, 0 ≤ i ∧ i < (hs.length : Int)) :
    Calls Try.prog 86 #[.agg #[.int .i64 ex, .slice A1 hs.length c1, .slice A2 cs.length c2], .slice A3 l.length c3] w fun e w' => ∃ v, e = .returned (.agg #[.int .i64 ex, v, .slice A2 cs.length c2]) ∧ Kd.R k73 73 w' w.heap.size (fun _ => True) v (woL ex hs l) ∧ Below w.heap.size w w' := by
  have hu35 := Try.underlying35
  have hu46 := Try.underlying46
  have hu73 := Try.underlying73
  have hml : l.length ≤ 9223372036854775807 := m3.2.1
  have M1 := Aside0.mk m1
  have M2 := Aside0.mk m2
  have M3 := Aside0.mk m3
  have HOK := Aside0.mk hok
  have HV := Aside0.mk hv
  have HE := Aside0.mk he
  have HL := Aside0.mk hl
  clear m1 m2 m3 hok hv he hl
  go_enter Try.func86, Try.ntmps86
  go_wp2_with fail
  have HB0 := Aside0.mk (((Below.refl w.heap.size w).alloc (Nat.le_refl _) (.cells #[.int .i64 ex, .slice A1 hs.length c1, .slice A2 cs.length c2] 35)).alloc (by simp) (.cells #[.int .i64 0, .slice none 0 0, .slice none 0 0] 35))
  refine (cloneH _ _ hs _ (Kd.C_below M1.out HB0.out) hn0 (by omega)).mono ?_
  rintro e w1 ⟨v, rfl, hr1, hb1⟩
  obtain ⟨gv, cap, rfl, hgv, hgl, hcap, hfz⟩ := R73_shape hr1 hn0
  have hs0 : w.heap.size + 1 < w1.heap.size := by have := hb1.size; simp at this; omega
  have x0 := pw_cell_below hb1 (show ((w.alloc (.cells #[.int .i64 ex, .slice A1 hs.length c1, .slice A2 cs.length c2] 35)).alloc (.cells #[.int .i64 0, .slice none 0 0, .slice none 0 0] 35)).cell? ⟨w.heap.size, 0, none⟩ = some (.int .i64 ex) by simp)
  have x1 := pw_cell_below hb1 (show ((w.alloc (.cells #[.int .i64 ex, .slice A1 hs.length c1, .slice A2 cs.length c2] 35)).alloc (.cells #[.int .i64 0, .slice none 0 0, .slice none 0 0] 35)).cell? ⟨w.heap.size, 1, none⟩ = some (.slice A1 hs.length c1) by simp)
  have x2 := pw_cell_below hb1 (show ((w.alloc (.cells #[.int .i64 ex, .slice A1 hs.length c1, .slice A2 cs.length c2] 35)).alloc (.cells #[.int .i64 0, .slice none 0 0, .slice none 0 0] 35)).cell? ⟨w.heap.size, 2, none⟩ = some (.slice A2 cs.length c2) by simp)
  have y0 := pw_cell_below hb1 (show ((w.alloc (.cells #[.int .i64 ex, .slice A1 hs.length c1, .slice A2 cs.length c2] 35)).alloc (.cells #[.int .i64 0, .slice none 0 0, .slice none 0 0] 35)).cell? ⟨w.heap.size + 1, 0, none⟩ = some (.int .i64 0) by simp)
  have y1 := pw_cell_below hb1 (show ((w.alloc (.cells #[.int .i64 ex, .slice A1 hs.length c1, .slice A2 cs.length c2] 35)).alloc (.cells #[.int .i64 0, .slice none 0 0, .slice none 0 0] 35)).cell? ⟨w.heap.size + 1, 1, none⟩ = some (.slice none 0 0) by simp)
  have y2 := pw_cell_below hb1 (show ((w.alloc (.cells #[.int .i64 ex, .slice A1 hs.length c1, .slice A2 cs.length c2] 35)).alloc (.cells #[.int .i64 0, .slice none 0 0, .slice none 0 0] 35)).cell? ⟨w.heap.size + 1, 2, none⟩ = some (.slice none 0 0) by simp)
  have fx := fz_below hb1 (show ((w.alloc (.cells #[.int .i64 ex, .slice A1 hs.length c1, .slice A2 cs.length c2] 35)).alloc (.cells #[.int .i64 0, .slice none 0 0, .slice none 0 0] 35)).frozen? ⟨w.heap.size, 1, none⟩ = false from by rw [World.frozen?_alloc_past _ _ _ (by simp)]; simp) (by simp; omega)
  have f0 := fz_below hb1 (show ((w.alloc (.cells #[.int .i64 ex, .slice A1 hs.length c1, .slice A2 cs.length c2] 35)).alloc (.cells #[.int .i64 0, .slice none 0 0, .slice none 0 0] 35)).frozen? ⟨w.heap.size + 1, 0, none⟩ = false by simp) (by simp)
  have f1 := fz_below hb1 (show ((w.alloc (.cells #[.int .i64 ex, .slice A1 hs.length c1, .slice A2 cs.length c2] 35)).alloc (.cells #[.int .i64 0, .slice none 0 0, .slice none 0 0] 35)).frozen? ⟨w.heap.size + 1, 1, none⟩ = false by simp) (by simp)
  have f2 := fz_below hb1 (show ((w.alloc (.cells #[.int .i64 ex, .slice A1 hs.length c1, .slice A2 cs.length c2] 35)).alloc (.cells #[.int .i64 0, .slice none 0 0, .slice none 0 0] 35)).frozen? ⟨w.heap.size + 1, 2, none⟩ = false by simp) (by simp)
  have hbw := HB0.out.trans (hb1.mono HB0.out.size)
  simp only [World.size_alloc] at hr1 hgv
  have HK : Aside0 (WSt w ex hs.length gv cap A2 cs.length c2 (woL ex hs (l.take 0)) (w1.setCell ⟨w.heap.size, 1, none⟩ (.slice (some ⟨gv, 0, none⟩) hs.length cap))) := by
    refine ⟨?_, ?_, ?_, ?_, ?_, ?_, by rw [World.frozen?_setCell]; exact f0, by rw [World.frozen?_setCell]; exact f1, by rw [World.frozen?_setCell]; exact f2, by rw [World.size_setCell]; exact hs0, ?_, hbw.setCell (p := ⟨w.heap.size, 1, none⟩) (by simp) _⟩
    · rw [World.cell?_setCell_other _ _ _ _ (by simp)]; exact x0
    · rw [World.cell?_setCell_same' _ _ _ (by rw [x1]; rfl)]
    · rw [World.cell?_setCell_other _ _ _ _ (by simp)]; exact x2
    · rw [World.cell?_setCell_other _ _ _ _ (by simp)]; exact y0
    · rw [World.cell?_setCell_other _ _ _ _ (by simp)]; exact y1
    · rw [World.cell?_setCell_other _ _ _ _ (by simp)]; exact y2
    · exact Kd.R_mono (Kd.R_far (p := ⟨w.heap.size, 1, none⟩) (Kd.R_bound hr1) (fun k hk => by simp; omega) _) (fun _ _ => trivial)
  have hgv1 : w.heap.size + 2 ≤ gv := by omega
  clear x0 x2 y0 y1 y2 f0 f1 f2 hbw hr1 hb1 hfz
  go_wp2_with fail
  go_loopw [13] (fun v15 wr => ∃ k : Int, v15 = .int .i64 k ∧ 0 ≤ k ∧ k ≤ (l.length : Int) ∧ Aside0 (WSt w ex hs.length gv cap A2 cs.length c2 (woL ex hs (l.take k.toNat)) wr)) (fun v15 _ => l.length - (intOf v15).toNat)
  case atStart => exact ⟨0, rfl, by omega, by omega, HK⟩
  case round =>
    obtain ⟨k, rfl, hk0, hkl, HKr⟩ := hrel
    by_cases hlt : k < (l.length : Int)
    · obtain ⟨ad, rfl, h0⟩ := at_I (Kd.C_below M3.out HKr.out.bel) k hk0 hlt
      obtain ⟨i, HI⟩ : ∃ i, Aside0 (i = l.getD k.toNat 0) := ⟨_, ⟨rfl⟩⟩
      rw [← HI.out] at h0
      have hi : 0 ≤ i ∧ i < (hs.length : Int) := by
        rw [HI.out, List.getD_eq_getElem?_getD, List.getElem?_eq_getElem (by omega), Option.getD_some]
        exact HL.out _ (List.getElem_mem _)
      obtain ⟨hi0, hi1⟩ := hi
      have k1 := HKr.out.x1
      have kx0 := HKr.out.x0
      obtain ⟨⟨y, km⟩, ⟨y', km'⟩, _⟩ := R73_wo ex HKr.out.r i hi0 hi1
      have km2 := (World.cell?_setCell_other wr ⟨gv, i.toNat * 4, none⟩ ⟨gv, i.toNat * 4 + 1, none⟩ (.int .i64 0) (by simp)).trans km'
      have kf := (R73_shape HKr.out.r (by rw [woL_length ex]; exact hn0))
      obtain ⟨g', cap', hg', _, _, _, hfz⟩ := kf
      injection hg' with hg' _ _
      injection hg' with hg'
      injection hg' with hg' _
      subst hg'
      have hfz0 := hfz (i.toNat * 4)
      have hfz1 := hfz (i.toNat * 4 + 1)
      clear hfz
      go_wp2_with fail
      go_roundw
      case rel =>
        refine ⟨k + 1, rfl, by omega, by omega, ⟨?_⟩⟩
        have := HKr.out.put i hi0 hi1
        rw [← woL_snoc] at this
        rw [show (k + 1).toNat = k.toNat + 1 from by omega, List.take_succ_eq_append_getElem (by omega)]
        have hli : l[k.toNat]'(by omega) = i := by rw [HI.out, List.getD_eq_getElem?_getD, List.getElem?_eq_getElem (by omega), Option.getD_some]
        rw [hli]
        exact this
      case measure => simp [intOf]; omega
    · obtain rfl : k = l.length := by omega
      have hK := HKr.out
      rw [show ((l.length : Int).toNat) = l.length from by omega, List.take_length] at hK
      have k0 := hK.x0
      have k1 := hK.x1
      have k2 := hK.x2
      have ky0 := hK.y0
      have ky1 := hK.y1
      have ky2 := hK.y2
      have kf0 := hK.f0
      have kf1 := hK.f1
      have kf2 := hK.f2
      have ksz := hK.sz
      have HR := Aside0.mk hK.r
      have HB2 := Aside0.mk hK.bel
      clear hK
      go_wp2_with fail
      have e0 : (((wr.setCell ⟨w.heap.size + 1, 0, none⟩ (.int .i64 ex)).setCell ⟨w.heap.size + 1, 1, none⟩ (.slice (some ⟨gv, 0, none⟩) hs.length cap)).setCell ⟨w.heap.size + 1, 2, none⟩ (.slice A2 cs.length c2)).cell? ⟨w.heap.size + 1, 0, none⟩ = some (.int .i64 ex) := by
        rw [World.cell?_setCell_other _ _ _ _ (by simp), World.cell?_setCell_other _ _ _ _ (by simp), World.cell?_setCell_same' _ _ _ (by rw [ky0]; rfl)]
      have e1 : (((wr.setCell ⟨w.heap.size + 1, 0, none⟩ (.int .i64 ex)).setCell ⟨w.heap.size + 1, 1, none⟩ (.slice (some ⟨gv, 0, none⟩) hs.length cap)).setCell ⟨w.heap.size + 1, 2, none⟩ (.slice A2 cs.length c2)).cell? ⟨w.heap.size + 1, 1, none⟩ = some (.slice (some ⟨gv, 0, none⟩) hs.length cap) := by
        rw [World.cell?_setCell_other _ _ _ _ (by simp), World.cell?_setCell_same' _ _ _ (by rw [World.cell?_setCell_other _ _ _ _ (by simp), ky1]; rfl)]
      have e2 : (((wr.setCell ⟨w.heap.size + 1, 0, none⟩ (.int .i64 ex)).setCell ⟨w.heap.size + 1, 1, none⟩ (.slice (some ⟨gv, 0, none⟩) hs.length cap)).setCell ⟨w.heap.size + 1, 2, none⟩ (.slice A2 cs.length c2)).cell? ⟨w.heap.size + 1, 2, none⟩ = some (.slice A2 cs.length c2) := by
        rw [World.cell?_setCell_same' _ _ _ (by rw [World.cell?_setCell_other _ _ _ _ (by simp), World.cell?_setCell_other _ _ _ _ (by simp), ky2]; rfl)]
      refine bodyPost_ret (res86 e0 e1 e2 _ rfl) rfl ⟨_, rfl, ?_, ?_⟩
      · have hb := Kd.R_bound HR.out
        have h1 := Kd.R_far (p := ⟨w.heap.size + 1, 0, none⟩) hb (fun k hk => by simp; omega) (.int .i64 ex)
        have h2 := Kd.R_far (p := ⟨w.heap.size + 1, 1, none⟩) h1 (fun k hk => by simp; omega) (.slice (some ⟨gv, 0, none⟩) hs.length cap)
        have h3 := Kd.R_far (p := ⟨w.heap.size + 1, 2, none⟩) h2 (fun k hk => by simp; omega) (.slice A2 cs.length c2)
        exact Kd.R_mono (Kd.R_lower h3 (by omega)) (fun _ _ => trivial)
      · exact ((HB2.out.setCell (p := ⟨w.heap.size + 1, 0, none⟩) (by simp) _).setCell (p := ⟨w.heap.size + 1, 1, none⟩) (by simp) _).setCell (p := ⟨w.heap.size + 1, 2, none⟩) (by simp) _
end Go.Proofs.Ytgjifkegfbpjkaa.Q
end
