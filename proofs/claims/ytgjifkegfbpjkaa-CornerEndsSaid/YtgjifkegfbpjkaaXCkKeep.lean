/- Walks: a market of which some houses would not sell, of package corner. -/
import Derived.Test.YtgjifkegfbpjkaaXCkShort
import Derived.Lib.SliceRun
section
namespace Go.Proofs.Ytgjifkegfbpjkaa.Q
set_option linter.unusedVariables false
open Go.RowKit Go.Maps Go.Proofs.YtgjifkegfbpjkaaW.PrintWords Go.Proofs.YtgjifkegfbpjkaaW.PrintLast Go.Proofs.YtgjifkegfbpjkaaW.PrintMore
theorem eqlNil32 (w : World) (a : Option Addr) (n c n' c' : Nat) : (binOp .eql 32 (.slice a n c) (.slice none n' c')).run Try.prog w = .ok (.bool a.isNone) w := Lib.run_eql_slice_nil w _ _ a n c n' c' Try.underlying32
theorem app73 {ops : Array Oper} {rest : List Oper} {o : Oper} {a : Act} {Q : Exit → Act → World → Prop} {w0 W : World} (base : Nat) (hgd : o.guard = none) (s x : Operand)
    (ho : o.op = .call { callee := .builtin .append, args := #[s, x], argTypes := #[32, 32] }) (v : Value) (xs ys : List S73) (A : Option Addr) (m c : Nat) (hs : a.eval s = v) (hx : a.eval x = .slice A m c)
    (HO : Kd.R k73 73 W base (fun _ => True) v xs) (HR : Kd.C k73 W A m ys) (HB : Below base w0 W) (hbase : base ≤ W.heap.size) (hl : (xs.length + m) * 32 ≤ 140737488355328)
    (h : ∀ v1 w1, Kd.R k73 73 w1 base (fun _ => True) v1 (xs ++ ys) → Below base w0 w1 → wpList Try.prog ops Q rest (a.put o.dst v1) w1) : wpList Try.prog ops Q (o :: rest) a W :=
  Kd.R_append_rows k73 base hgd s x 32 73 (.agg #[(.int .i64 0), (.int .i64 0), (.bool false), (.int .i64 0)]) 32 ho Try.underlying32 info73 rfl (by decide) (by omega) v xs ys A m c (fun _ => True) (fun _ => False) hs hx HO HR
    (fun x cs h => by rw [k73_open h]; exact k73_mkM _ _ _ x) (fun _ h => h.elim) (fun _ _ => trivial) HB hbase hl (fun v1 w1 h1 h2 _ _ => h v1 w1 h1 h2)
set_option maxHeartbeats 1000000 in
set_option maxRecDepth 100000 in
theorem cloneH (A : Option Addr) (c : Nat) (l : List S73) (w : World) (hr : Kd.C k73 w A l.length l) (h0 : 0 < l.length) (h1 : l.length ≤ 1000) :
    Calls Try.prog 113 #[.slice A l.length c] w fun e w' => ∃ v, e = .returned v ∧ Kd.R k73 73 w' w.heap.size (fun _ => True) v l ∧ Below w.heap.size w w' := by
  obtain ⟨ad, rfl, _⟩ := hr.2.2 h0
  have q := eqlNil32
  have HR := Aside0.mk hr
  clear hr
  go_enter Try.func113, Try.ntmps113
  go_wp2_with (first
    | ((with_reducible refine gate_dst (N := 5) rfl ?_); refine Kd.R_lit k73 _ 73 ?hg (N := 5) ?hd (xs := ([] : List S73)) (inner := []) (ok := fun _ => True) (okp := fun _ => True) ?hr ?hp (fun _ hk => hk) trivial (Below.refl _ _) (Nat.le_refl _) (by simp) ?_; (case hd => rfl); (case hg => rfl); (case hr => exact hr_); (case hp => exact (Reps.none _ _)); intro v1 w1 ho1 hb1 hg1 hn1; have HO1 := Aside0.mk ho1; have HB1 := Aside0.mk hb1; clear ho1 hb1 hg1 hn1)
    | ((with_reducible refine gate_builtin (b := .append) (xs := #[.tmp 5, .tmp 6]) rfl ?_); at_builtin; refine app73 (w0 := w) w.heap.size rfl (.tmp 5) (.tmp 6) rfl v1 [] l _ _ _ rfl rfl HO1.out ?aR HB1.out HB1.out.size ?aL ?_; (case aR => exact Kd.C_below HR.out HB1.out); (case aL => simp; omega); intro v2 w2 ho2 hb2; have HO2 := Aside0.mk ho2; have HB2 := Aside0.mk hb2; clear ho2 hb2))
  go_ret
  exact ⟨_, rfl, HO2.out, HB2.out⟩
def mute1 (h : S73) : S73 := ⟨h.f0, false, h.f2⟩
def mute (hs : List S73) (i : Int) : List S73 := hs.set i.toNat (mute1 (hs.getD i.toNat z73))
def keepL (hs : List S73) (l : List Int) : List S73 := l.foldl mute hs
theorem keepL_length (l : List Int) : ∀ hs, (keepL hs l).length = hs.length := by
  induction l with
  | nil => intro hs; rfl
  | cons i l ih => intro hs; show (keepL (mute hs i) l).length = _; rw [ih]; simp [mute]
theorem keepL_snoc (hs : List S73) (l : List Int) (i : Int) : keepL hs (l ++ [i]) = mute (keepL hs l) i := by simp [keepL, List.foldl_append]
theorem mute_vH (hs : List S73) (i : Int) (h : ∀ x ∈ hs, vH x = true) : ∀ x ∈ mute hs i, vH x = true := by
  intro x hx
  unfold mute at hx
  by_cases hi : i.toNat < hs.length
  · rcases List.mem_or_eq_of_mem_set hx with hx | rfl
    · exact h x hx
    · rw [List.getD_eq_getElem?_getD, List.getElem?_eq_getElem hi, Option.getD_some]
      have := h _ (List.getElem_mem hi)
      rw [vH_iff] at this ⊢
      exact this
  · rw [List.set_eq_of_length_le (by omega)] at hx
    exact h x hx
theorem keepL_vH (l : List Int) : ∀ hs, (∀ x ∈ hs, vH x = true) → ∀ x ∈ keepL hs l, vH x = true := by
  induction l with
  | nil => intro hs h; exact h
  | cons i l ih => intro hs h; exact ih _ (mute_vH hs i h)
section
variable {W : World} {base g n cap : Nat} {xs : List S73}
theorem R73_shape {v : Value} (h : Kd.R k73 73 W base (fun _ => True) v xs) (h0 : 0 < xs.length) : ∃ g cap, v = .slice (some ⟨g, 0, none⟩) xs.length cap ∧ base ≤ g ∧ g < W.heap.size ∧ xs.length ≤ cap ∧ ∀ j, W.frozen? ⟨g, j, none⟩ = false := by
  obtain ⟨hok, inner, ho, hr⟩ := h
  rcases ho.2 with ⟨_, h⟩ | ⟨g, cap, cur, hv, hb, hh, hnc, _⟩
  · omega
  · exact ⟨g, cap, hv, hb, (Array.getElem?_eq_some_iff.1 hh).1, hnc, fun j => by simp [World.frozen?, hh]⟩
theorem R73_mute (h : Kd.R k73 73 W base (fun _ => True) (.slice (some ⟨g, 0, none⟩) n cap) xs) (i : Int) (h0 : 0 ≤ i) (h1 : i < (n : Int)) :
    (∃ y, W.cell? ⟨g, i.toNat * 4 + 2, none⟩ = some (.bool y)) ∧ Kd.R k73 73 (W.setCell ⟨g, i.toNat * 4 + 2, none⟩ (.bool false)) base (fun _ => True) (.slice (some ⟨g, 0, none⟩) n cap) (mute xs i) ∧ W.grownBy (W.setCell ⟨g, i.toNat * 4 + 2, none⟩ (.bool false)) (some g) := by
  have hr := Kd.R_reads' h
  obtain ⟨ad, e, c0, c1, c2, c3⟩ := at_T73 hr.2.2 i h0 (by omega)
  injection e with e
  subst e
  simp only [add_plain] at c0 c1 c2 c3
  have hcc : ∀ (j : Nat) (u : Value), ([.int .i64 (rd_T73 xs i).f0.f0, .int .i64 (rd_T73 xs i).f0.f1, .bool (rd_T73 xs i).f1, .int .i64 (rd_T73 xs i).f2] : List Value)[j]? = some u → W.cell? ⟨g, i.toNat * k73.sz + j, none⟩ = some u := by
    intro j u hu
    match j, hu with
    | 0, hu => cases hu; exact c0
    | 1, hu => cases hu; exact c1
    | 2, hu => cases hu; exact c2
    | 3, hu => cases hu; exact c3
  have := Kd.R_seg (x' := mute1 (xs.getD i.toNat z73)) (okp := fun _ => False) (seg := [.bool false]) (j := 2) h i h0 h1 rfl hcc (by decide) (k73_mkM _ _ _ (mute1 (xs.getD i.toNat z73))) (fun _ h => h.elim)
  exact ⟨⟨_, c2⟩, this.1, this.2⟩
end
theorem res82 {W : World} {g : Nat} {p0 p1 : Int} (h0 : W.cell? ⟨g, 0, none⟩ = some (.int .i64 p0)) (h1 : W.cell? ⟨g, 1, none⟩ = some (.int .i64 p1)) (t : Array Value) (ht : t[4]? = some (.pointer (some ⟨g, 0, none⟩))) :
    (results Try.f82 t).run Try.prog W = .ok (.agg #[.int .i64 p0, .int .i64 p1]) W := by
  simp [results, Try.results82, go_sem, ht, h0, h1]
structure KSt (w : World) (ex : Int) (n : Nat) (gv cap : Nat) (A2 : Option Addr) (m c2 : Nat) (xs : List S73) (W : World) : Prop where
  x0 : W.cell? ⟨w.heap.size, 0, none⟩ = some (.int .i64 ex)
  x1 : W.cell? ⟨w.heap.size, 1, none⟩ = some (.slice (some ⟨gv, 0, none⟩) n cap)
  x2 : W.cell? ⟨w.heap.size, 2, none⟩ = some (.slice A2 m c2)
  y0 : W.cell? ⟨w.heap.size + 1, 0, none⟩ = some (.int .i64 0)
  y1 : W.cell? ⟨w.heap.size + 1, 1, none⟩ = some (.int .i64 0)
  f0 : W.frozen? ⟨w.heap.size + 1, 0, none⟩ = false
  f1 : W.frozen? ⟨w.heap.size + 1, 1, none⟩ = false
  sz : w.heap.size + 1 < W.heap.size
  r : Kd.R k73 73 W (w.heap.size + 2) (fun _ => True) (.slice (some ⟨gv, 0, none⟩) n cap) xs
  bel : Below w.heap.size w W
theorem KSt.mute {w W : World} {ex : Int} {n gv cap : Nat} {A2 : Option Addr} {m c2 : Nat} {xs : List S73} (h : KSt w ex n gv cap A2 m c2 xs W) (i : Int) (h0 : 0 ≤ i) (h1 : i < (n : Int)) : KSt w ex n gv cap A2 m c2 (mute xs i) (W.setCell ⟨gv, i.toNat * 4 + 2, none⟩ (.bool false)) := by
  obtain ⟨x0, x1, x2, y0, y1, f0, f1, sz, r, bel⟩ := h
  have hg : w.heap.size + 2 ≤ gv := Kd.R_base r gv (by simp [Value.ownBlock])
  have hc := R73_mute r i h0 h1
  refine ⟨?_, ?_, ?_, ?_, ?_, by rw [World.frozen?_setCell]; exact f0, by rw [World.frozen?_setCell]; exact f1, by rw [World.size_setCell]; exact sz, hc.2.1, bel.setCell (p := ⟨gv, i.toNat * 4 + 2, none⟩) (by simp; omega) _⟩ <;> rw [World.cell?_setCell_far _ _ _ _ (by simp; omega)] <;> assumption
set_option maxHeartbeats 2000000 in
set_option maxRecDepth 100000 in
theorem keeping_calls (ex : Int) (A1 : Option Addr) (c1 : Nat) (hs : List S73) (A2 : Option Addr) (c2 : Nat) (cs : List S75) (A3 : Option Addr) (c3 : Nat) (l : List Int) (w : World) (m1 : Kd.C k73 w A1 hs.length hs) (m2 : Kd.C k75 w A2 cs.length cs) (m3 : Kd.C (Kd.int .i64) w A3 l.length l) (hok : okCs cs) (hv : ∀ h ∈ hs, vH h = true) (hn : hs.length ≤ 6) (hn0 : 0 < hs.length) (he : 1 ≤ ex ∧ ex ≤ 200) (hl : ∀ i ∈ l, 0 ≤ i ∧ i < (hs.length : Int)) :
    Calls Try.prog 82 #[.agg #[.int .i64 ex, .slice A1 hs.length c1, .slice A2 cs.length c2], .slice A3 l.length c3] w fun e w' => e = .returned (.agg #[.int .i64 (shortR ex (keepL hs l) cs).1, .int .i64 (shortR ex (keepL hs l) cs).2.1]) ∧ Below w.heap.size w w' := by
  have hu35 := Try.underlying35
  have hu46 := Try.underlying46
  have hu73 := Try.underlying73
  have hml : l.length ≤ 9223372036854775807 := m3.2.1
  have M1 := Aside0.mk m1
  have M2 := Aside0.mk m2
  have M3 := Aside0.mk m3
  have HOK := Aside0.mk hok
  have HV := Aside0.mk hv
  have HE := Aside0.mk he
  have HL := Aside0.mk hl
  clear m1 m2 m3 hok hv he hl
  go_enter Try.func82, Try.ntmps82
  go_wp2_with fail
  have HB0 := Aside0.mk (((Below.refl w.heap.size w).alloc (Nat.le_refl _) (.cells #[.int .i64 ex, .slice A1 hs.length c1, .slice A2 cs.length c2] 35)).alloc (by simp) (.cells #[.int .i64 0, .int .i64 0] 46))
  refine (cloneH _ _ hs _ (Kd.C_below M1.out HB0.out) hn0 (by omega)).mono ?_
  rintro e w1 ⟨v, rfl, hr1, hb1⟩
  obtain ⟨gv, cap, rfl, hgv, hgl, hcap, hfz⟩ := R73_shape hr1 hn0
  have hs0 : w.heap.size + 1 < w1.heap.size := by have := hb1.size; simp at this; omega
  have x0 := pw_cell_below hb1 (show ((w.alloc (.cells #[.int .i64 ex, .slice A1 hs.length c1, .slice A2 cs.length c2] 35)).alloc (.cells #[.int .i64 0, .int .i64 0] 46)).cell? ⟨w.heap.size, 0, none⟩ = some (.int .i64 ex) by simp)
  have x1 := pw_cell_below hb1 (show ((w.alloc (.cells #[.int .i64 ex, .slice A1 hs.length c1, .slice A2 cs.length c2] 35)).alloc (.cells #[.int .i64 0, .int .i64 0] 46)).cell? ⟨w.heap.size, 1, none⟩ = some (.slice A1 hs.length c1) by simp)
  have x2 := pw_cell_below hb1 (show ((w.alloc (.cells #[.int .i64 ex, .slice A1 hs.length c1, .slice A2 cs.length c2] 35)).alloc (.cells #[.int .i64 0, .int .i64 0] 46)).cell? ⟨w.heap.size, 2, none⟩ = some (.slice A2 cs.length c2) by simp)
  have y0 := pw_cell_below hb1 (show ((w.alloc (.cells #[.int .i64 ex, .slice A1 hs.length c1, .slice A2 cs.length c2] 35)).alloc (.cells #[.int .i64 0, .int .i64 0] 46)).cell? ⟨w.heap.size + 1, 0, none⟩ = some (.int .i64 0) by simp)
  have y1 := pw_cell_below hb1 (show ((w.alloc (.cells #[.int .i64 ex, .slice A1 hs.length c1, .slice A2 cs.length c2] 35)).alloc (.cells #[.int .i64 0, .int .i64 0] 46)).cell? ⟨w.heap.size + 1, 1, none⟩ = some (.int .i64 0) by simp)
  have fx := fz_below hb1 (show ((w.alloc (.cells #[.int .i64 ex, .slice A1 hs.length c1, .slice A2 cs.length c2] 35)).alloc (.cells #[.int .i64 0, .int .i64 0] 46)).frozen? ⟨w.heap.size, 1, none⟩ = false from by rw [World.frozen?_alloc_past _ _ _ (by simp)]; simp) (by simp; omega)
  have f0 := fz_below hb1 (show ((w.alloc (.cells #[.int .i64 ex, .slice A1 hs.length c1, .slice A2 cs.length c2] 35)).alloc (.cells #[.int .i64 0, .int .i64 0] 46)).frozen? ⟨w.heap.size + 1, 0, none⟩ = false by simp) (by simp)
  have f1 := fz_below hb1 (show ((w.alloc (.cells #[.int .i64 ex, .slice A1 hs.length c1, .slice A2 cs.length c2] 35)).alloc (.cells #[.int .i64 0, .int .i64 0] 46)).frozen? ⟨w.heap.size + 1, 1, none⟩ = false by simp) (by simp)
  have hbw := HB0.out.trans (hb1.mono HB0.out.size)
  simp only [World.size_alloc] at hr1 hgv
  have HK : Aside0 (KSt w ex hs.length gv cap A2 cs.length c2 (keepL hs (l.take 0)) (w1.setCell ⟨w.heap.size, 1, none⟩ (.slice (some ⟨gv, 0, none⟩) hs.length cap))) := by
    refine ⟨?_, ?_, ?_, ?_, ?_, by rw [World.frozen?_setCell]; exact f0, by rw [World.frozen?_setCell]; exact f1, by rw [World.size_setCell]; exact hs0, ?_, hbw.setCell (p := ⟨w.heap.size, 1, none⟩) (by simp) _⟩
    · rw [World.cell?_setCell_other _ _ _ _ (by simp)]; exact x0
    · rw [World.cell?_setCell_same' _ _ _ (by rw [x1]; rfl)]
    · rw [World.cell?_setCell_other _ _ _ _ (by simp)]; exact x2
    · rw [World.cell?_setCell_other _ _ _ _ (by simp)]; exact y0
    · rw [World.cell?_setCell_other _ _ _ _ (by simp)]; exact y1
    · exact Kd.R_mono (Kd.R_far (p := ⟨w.heap.size, 1, none⟩) (Kd.R_bound hr1) (fun k hk => by simp; omega) _) (fun _ _ => trivial)
  have hgv1 : w.heap.size + 2 ≤ gv := by omega
  clear x0 x2 y0 y1 f0 f1 hbw hr1 hb1 hfz
  go_wp2_with fail
  go_loopw [15] (fun v15 wr => ∃ k : Int, v15 = .int .i64 k ∧ 0 ≤ k ∧ k ≤ (l.length : Int) ∧ Aside0 (KSt w ex hs.length gv cap A2 cs.length c2 (keepL hs (l.take k.toNat)) wr)) (fun v15 _ => l.length - (intOf v15).toNat)
  case atStart => exact ⟨0, rfl, by omega, by omega, HK⟩
  case round =>
    obtain ⟨k, rfl, hk0, hkl, HKr⟩ := hrel
    by_cases hlt : k < (l.length : Int)
    · obtain ⟨ad, rfl, h0⟩ := at_I (Kd.C_below M3.out HKr.out.bel) k hk0 hlt
      obtain ⟨i, HI⟩ : ∃ i, Aside0 (i = l.getD k.toNat 0) := ⟨_, ⟨rfl⟩⟩
      rw [← HI.out] at h0
      have hi : 0 ≤ i ∧ i < (hs.length : Int) := by
        rw [HI.out, List.getD_eq_getElem?_getD, List.getElem?_eq_getElem (by omega), Option.getD_some]
        exact HL.out _ (List.getElem_mem _)
      obtain ⟨hi0, hi1⟩ := hi
      have k1 := HKr.out.x1
      obtain ⟨⟨y, km⟩, _, _⟩ := R73_mute HKr.out.r i hi0 hi1
      have kf := (R73_shape HKr.out.r (by rw [keepL_length]; exact hn0))
      obtain ⟨g', cap', hg', _, _, _, hfz⟩ := kf
      injection hg' with hg' _ _
      injection hg' with hg'
      injection hg' with hg' _
      subst hg'
      replace hfz := hfz (i.toNat * 4 + 2)
      go_wp2_with fail
      go_roundw
      case rel =>
        refine ⟨k + 1, rfl, by omega, by omega, ⟨?_⟩⟩
        have := HKr.out.mute i hi0 hi1
        rw [← keepL_snoc] at this
        rw [show (k + 1).toNat = k.toNat + 1 from by omega, List.take_succ_eq_append_getElem (by omega)]
        have hli : l[k.toNat]'(by omega) = i := by rw [HI.out, List.getD_eq_getElem?_getD, List.getElem?_eq_getElem (by omega), Option.getD_some]
        rw [hli]
        exact this
      case measure => simp [intOf]; omega
    · obtain rfl : k = l.length := by omega
      have hK := HKr.out
      rw [show ((l.length : Int).toNat) = l.length from by omega, List.take_length] at hK
      have k0 := hK.x0
      have k1 := hK.x1
      have k2 := hK.x2
      have ky0 := hK.y0
      have ky1 := hK.y1
      have kf0 := hK.f0
      have kf1 := hK.f1
      have ksz := hK.sz
      have hrd := Kd.R_reads' hK.r
      have HRD := Aside0.mk hrd
      have HKL := Aside0.mk (keepL_length l hs)
      have HB2 := Aside0.mk hK.bel
      clear hK hrd
      go_wp2_with fail
      have hsc := shortage_calls ex (some ⟨gv, 0, none⟩) cap (keepL hs l) A2 c2 cs wr HRD.out.2.2 (Kd.C_below M2.out HB2.out) HOK.out (keepL_vH l hs HV.out) (by rw [HKL.out]; exact hn) HE.out
      rw [HKL.out] at hsc
      refine hsc.mono ?_
      rintro e w5 ⟨rfl, hb5⟩
      have z0 := pw_cell_below hb5 ky0
      have z1 := pw_cell_below hb5 ky1
      have zf0 := fz_below hb5 kf0 ksz
      have zf1 := fz_below hb5 kf1 ksz
      have hsz5 := Nat.lt_of_lt_of_le ksz hb5.size
      have HB5 := Aside0.mk (HB2.out.trans (hb5.mono HB2.out.size))
      clear hb5 k0 k1 k2 ky0 ky1 kf0 kf1 ksz
      generalize hlo : (shortR ex (keepL hs l) cs).1 = lo at *
      generalize hhi : (shortR ex (keepL hs l) cs).2.1 = hi at *
      have HLO := Aside0.mk hlo
      have HHI := Aside0.mk hhi
      clear hlo hhi
      go_wp2_with fail
      have e0 : (((w5.setCell ⟨w.heap.size + 1, 0, none⟩ (.int .i64 lo)).setCell ⟨w.heap.size + 1, 1, none⟩ (.int .i64 hi)).alloc (.cells #[.int .i64 lo, .int .i64 hi] 46)).cell? ⟨w.heap.size + 1, 0, none⟩ = some (.int .i64 lo) := by
        rw [World.cell?_alloc_past _ _ _ (by simp; omega), World.cell?_setCell_other _ _ _ _ (by simp), World.cell?_setCell_same' _ _ _ (by rw [z0]; rfl)]
      have e1 : (((w5.setCell ⟨w.heap.size + 1, 0, none⟩ (.int .i64 lo)).setCell ⟨w.heap.size + 1, 1, none⟩ (.int .i64 hi)).alloc (.cells #[.int .i64 lo, .int .i64 hi] 46)).cell? ⟨w.heap.size + 1, 1, none⟩ = some (.int .i64 hi) := by
        rw [World.cell?_alloc_past _ _ _ (by simp; omega), World.cell?_setCell_same' _ _ _ (by rw [World.cell?_setCell_other _ _ _ _ (by simp), z1]; rfl)]
      refine bodyPost_ret (res82 e0 e1 _ rfl) rfl ⟨?_, ?_⟩
      · rw [HLO.out, HHI.out]
      · exact ((HB5.out.setCell (p := ⟨w.heap.size + 1, 0, none⟩) (by simp) _).setCell (p := ⟨w.heap.size + 1, 1, none⟩) (by simp) _).alloc (by simp; omega) _
def corner_Market_keeping.f (a0_0 : Int) (l0_1 : List (S73)) (l0_2 : List (S75)) (l1 : List Int) : Option (Int × Int) :=
  if ck a0_0 l0_1 l0_2 = 0 ∧ (∀ i ∈ l1, 0 ≤ i ∧ i < (l0_1.length : Int)) then some ((shortR a0_0 (keepL l0_1 l1) l0_2).1, (shortR a0_0 (keepL l0_1 l1) l0_2).2.1) else none
theorem corner_Market_keeping.calls (a0_0 : Int) (A0_1 : Option Addr) (c0_1 : Nat) (l0_1 : List (S73)) (A0_2 : Option Addr) (c0_2 : Nat) (l0_2 : List (S75)) (A1 : Option Addr) (c1 : Nat) (l1 : List Int) (r1 : Int) (r2 : Int) (w : World) (hr0_1 : Kd.C k73 w A0_1 l0_1.length l0_1) (hc0_1 : l0_1.length ≤ c0_1) (hr0_2 : Kd.C k75 w A0_2 l0_2.length l0_2) (hc0_2 : l0_2.length ≤ c0_2) (hr1 : Kd.C (Kd.int .i64) w A1 l1.length l1) (hc1 : l1.length ≤ c1) (h : corner_Market_keeping.f a0_0 l0_1 l0_2 l1 = some (r1, r2)) :
    Calls Try.prog 82 #[.agg #[.int .i64 a0_0, .slice A0_1 l0_1.length c0_1, .slice A0_2 l0_2.length c0_2], .slice A1 l1.length c1] w fun e w' => e = .returned (.agg #[.int .i64 r1, .int .i64 r2]) ∧ Below w.heap.size w w' := by
  unfold corner_Market_keeping.f at h
  split at h
  · rename_i h1
    injection h with h
    injection h with e1 e2
    subst e1 e2
    have hz := ck_zero h1.1
    exact keeping_calls a0_0 A0_1 c0_1 l0_1 A0_2 c0_2 l0_2 A1 c1 l1 w hr0_1 hr0_2 hr1 (ck_okCs h1.1) hz.2.2.2.2.2.1 hz.2.1 hz.1 ⟨hz.2.2.2.1, hz.2.2.2.2.1⟩ h1.2
  · cases h
end Go.Proofs.Ytgjifkegfbpjkaa.Q
end
