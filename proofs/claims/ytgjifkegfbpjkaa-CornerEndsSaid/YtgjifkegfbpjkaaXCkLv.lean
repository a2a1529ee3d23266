/- Walks: the houses that can be left out, of package corner. -/
import Derived.Test.YtgjifkegfbpjkaaXCkAdd
import Derived.Test.YtgjifkegfbpjkaaXCkWithout
section
namespace Go.Proofs.Ytgjifkegfbpjkaa.Q
set_option linter.unusedVariables false
open Go.RowKit Go.Maps Go.Proofs.YtgjifkegfbpjkaaW.PrintWords Go.Proofs.YtgjifkegfbpjkaaW.PrintLast Go.Proofs.YtgjifkegfbpjkaaW.PrintMore
def sumLo (hs : List S73) : Int := (hs.map (fun h => h.f0.f0)).sum
def sumHi (hs : List S73) : Int := (hs.map (fun h => h.f0.f1)).sum
def pos (ex : Int) (hs : List S73) : Bool := decide (sumLo hs ≤ ex ∧ ex ≤ sumHi hs)
theorem wrap_in64 {a : Int} (h0 : -9223372036854775808 ≤ a) (h1 : a < 9223372036854775808) : wrap64 a = a := by unfold wrap64; omega
theorem pos_l (ex : Int) (hs : List S73) (cs : List S75) (h0 : hs.length ≤ 6) (hv : ∀ x ∈ hs, vH x = true) : ∀ (m : Nat) (i : Nat) (k : Nat) (a b : Int), i + m = hs.length → m < k → 0 ≤ a → a ≤ 200 * i → 0 ≤ b → b ≤ 200 * i →
    corner_Market_possible.l0 k hs (hs.length : Int) i ex hs cs a b = some (decide (a + sumLo (hs.drop i) ≤ ex ∧ ex ≤ b + sumHi (hs.drop i)))
  | 0, i, k + 1, a, b, hi, hk, _, _, _, _ => by
    have e : i = hs.length := by omega
    subst e
    rw [corner_Market_possible.l0, if_neg (by omega), List.drop_length]
    unfold corner_within.f
    simp only [sumLo, sumHi, List.map_nil, List.sum_nil, Int.add_zero]
    by_cases h1 : a ≤ ex <;> by_cases h2 : ex ≤ b <;> simp [h1, h2]
  | m + 1, i, k + 1, a, b, hi, hk, h1, h2, h3, h4 => by
    have hil : i < hs.length := by omega
    have e : rd_T73 hs (i : Int) = hs[i] := by
      rw [rd_T73_eq, List.getD_eq_getElem?_getD, show (i : Int).toNat = i from by omega, List.getElem?_eq_getElem hil, Option.getD_some]
    obtain ⟨p0, p1, p2, _, _⟩ := (vH_iff _).1 (hv hs[i] (List.getElem_mem _))
    rw [corner_Market_possible.l0, if_pos (by omega), if_pos (by omega), if_pos (by omega), e, wrap_in64 (by omega) (by omega), wrap_in64 (by omega) (by omega), wrap_in64 (by omega) (by omega)]
    have := pos_l ex hs cs h0 hv m (i + 1) k (a + hs[i].f0.f0) (b + hs[i].f0.f1) (by omega) (by omega) (by omega) (by omega) (by omega) (by omega)
    rw [show ((i : Int) + 1) = (((i + 1 : Nat)) : Int) from by omega, this, List.drop_eq_getElem_cons hil]
    simp only [sumLo, sumHi, List.map_cons, List.sum_cons, Int.add_assoc]
theorem pos_f (ex : Int) (hs : List S73) (cs : List S75) (h0 : hs.length ≤ 6) (hv : ∀ x ∈ hs, vH x = true) : corner_Market_possible.f 7 ex hs cs = some (pos ex hs) := by
  unfold corner_Market_possible.f
  have := pos_l ex hs cs h0 hv hs.length 0 7 0 0 (by omega) (by omega) (by omega) (by omega) (by omega) (by omega)
  simpa [pos] using this
theorem R73_slice {W : World} {base : Nat} {v : Value} {xs : List S73} (h : Kd.R k73 73 W base (fun _ => True) v xs) : ∃ A c, v = .slice A xs.length c ∧ xs.length ≤ c := by
  obtain ⟨hok, inner, ho, hr⟩ := h
  rcases ho.2 with ⟨rfl, h⟩ | ⟨g, cap, cur, hv, hb, hh, hnc, _⟩
  · exact ⟨none, 0, by rw [h], by omega⟩
  · exact ⟨_, cap, hv, hnc⟩
def lvn (ex : Int) (hs : List S73) : Nat → List Int → Nat → Option (List Int)
  | 0, l, _ => if pos ex (woL ex hs l) = true then some l else none
  | m + 1, l, from_ => (List.range' from_ (hs.length - from_)).findSome? fun (i : Nat) => lvn ex hs m (l ++ [(i : Int)]) (i + 1)
set_option maxHeartbeats 2000000 in
set_option maxRecDepth 100000 in
theorem lv_calls (w0 : World) (bf bm ba : Nat) (ex : Int) (A1 : Option Addr) (c1 : Nat) (hs : List S73) (A2 : Option Addr) (c2 : Nat) (cs : List S75) (M1 : Aside0 (Kd.C k73 w0 A1 hs.length hs)) (M2 : Aside0 (Kd.C k75 w0 A2 cs.length cs)) (HOK : Aside0 (okCs cs)) (HV : Aside0 (∀ h ∈ hs, vH h = true)) (hn : hs.length ≤ 6) (hn0 : 0 < hs.length) (HE : Aside0 (1 ≤ ex ∧ ex ≤ 200)) (base : Nat) (hbf : bf < base) (HC2 : cs.length ≤ c2) :
    ∀ (m : Nat) (l : List Int) (from_ : Nat) (fi mi : Int) (v : Value) (W : World), fi = (from_ : Int) → mi = (m : Int) → (∀ i ∈ l, 0 ≤ i ∧ i < (hs.length : Int)) → l.length + m ≤ 7 → from_ ≤ hs.length → base ≤ W.heap.size → W.ownsRow base 3 1 v l.length (nums .i64 l) → Cc w0 85 bf bm ba ex A1 c1 hs A2 c2 cs W →
    Calls Try.prog 85 #[v, .int .i64 fi, .int .i64 mi, .pointer (some ⟨bf, 0, none⟩), .pointer (some ⟨bm, 0, none⟩), .pointer (some ⟨ba, 0, none⟩)] W fun e W' => e = .returned (.bool (lvn ex hs m l from_).isSome) ∧ W.grownBy W' (some bf) ∧ Cc w0 85 bf bm ba ex A1 c1 hs A2 c2 cs W' ∧ ∀ l', lvn ex hs m l from_ = some l' → ∃ v', W'.cell? ⟨bf, 0, none⟩ = some v' ∧ W'.ownsRow base 3 1 v' l'.length (nums .i64 l') := by
  intro m
  induction m with
  | zero =>
    intro l from_ fi mi v W hfi hmi hl hlm hf hbW ho hc
    subst hfi hmi
    obtain ⟨A, c, rfl⟩ := own_slice ho
    have hu35 := Try.underlying35
    have hu46 := Try.underlying46
    have HL := Aside0.mk hl
    have HO := Aside0.mk ho
    have HC := Aside0.mk hc
    have m0 := hc.m0
    have m1 := hc.m1
    have m2 := hc.m2
    have ff := hc.ff
    obtain ⟨Af, nf, cf, hcf⟩ := hc.cf
    have m0' := (World.cell?_setCell_far W ⟨bf, 0, none⟩ ⟨bm, 0, none⟩ (.slice A l.length c) (fun e => hc.ne1 e.symm)).trans m0
    have m1' := (World.cell?_setCell_far W ⟨bf, 0, none⟩ ⟨bm, 1, none⟩ (.slice A l.length c) (fun e => hc.ne1 e.symm)).trans m1
    have m2' := (World.cell?_setCell_far W ⟨bf, 0, none⟩ ⟨bm, 2, none⟩ (.slice A l.length c) (fun e => hc.ne1 e.symm)).trans m2
    have HOS := Aside0.mk (own_grown (grown_set W bf (.slice A l.length c)) ho (fun k hk => by injection hk with hk; omega))
    have HB := Aside0.mk (hc.bel.setCell (p := ⟨bf, 0, none⟩) hc.b0 (.slice A l.length c))
    have hfd : ∀ (a b : Int) (w : World), (Instr.field 46 (.agg #[.int .i64 a, .int .i64 b]) 0).run Try.prog w = .ok (.int .i64 a) w := fun _ _ _ => by kernel_rfl
    clear hl ho hc m0 m1 m2
    go_enter Try.func85, Try.ntmps85
    go_wp2_with fail
    refine (without_calls ex A1 c1 hs A2 c2 cs A c l _ (Kd.C_below M1.out HB.out) (Kd.C_below M2.out HB.out) ?_ HOK.out HV.out hn hn0 HE.out HL.out).mono ?_
    · exact (Kd.R_reads' (R_nums (HOS.out) (Nat.le_refl _))).2.2
    rintro e w1 ⟨v1, rfl, hr1, hb⟩
    obtain ⟨A4, c4, rfl, hc4⟩ := R73_slice hr1
    have HR1 := Aside0.mk hr1
    have HBV := Aside0.mk hb
    clear hb hr1
    have HWL := Aside0.mk (woL_length ex l hs)
    rw [HWL.out] at hc4 ⊢
    obtain ⟨lo, HLO⟩ : ∃ lo, Aside0 (pos ex (woL ex hs l) = lo) := ⟨_, ⟨rfl⟩⟩
    have HPS := Aside0.mk (pos_f ex (woL ex hs l) cs (by rw [HWL.out]; exact hn) (woL_vH ex HE.out l hs HV.out))
    rw [HLO.out] at HPS
    go_wp2_with fail
    have h87 := corner_Market_possible.calls 7 ex A4 c4 (woL ex hs l) A2 c2 cs lo w1 ((Kd.R_reads' HR1.out).1 ▸ (Kd.R_reads' HR1.out).2.2) (by rw [HWL.out]; exact hc4) (Kd.C_below M2.out (HB.out.trans (HBV.out.mono HB.out.size))) HC2 HPS.out
    rw [HWL.out] at h87
    refine h87.mono ?_
    rintro e w2 ⟨rfl, hb⟩
    have HBW := Aside0.mk (HBV.out.trans (hb.mono HBV.out.size))
    clear hb
    go_wp2_with fail
    go_ret
    refine ⟨?_, ?_, ?_, ?_⟩
    · rw [lvn, HLO.out]
      cases lo <;> rfl
    · exact (grown_set W bf _).trans (grown_of_below HBW.out _)
    · exact (HC.out.found _ _ _).below HBW.out
    · intro l' hl'
      rw [lvn, HLO.out] at hl'
      split at hl'
      · injection hl' with hl'
        subst hl'
        exact ⟨_, pw_cell_below HBW.out (World.cell?_setCell_same' _ _ _ (by rw [hcf]; rfl)), pw_own_below HOS.out HBW.out⟩
      · cases hl'
  | succ m ih =>
    intro l from_ fi mi v W hfi hmi hl hlm hf hbW ho hc
    subst hfi
    obtain ⟨A, c, rfl⟩ := own_slice ho
    have hu35 := Try.underlying35
    have hu73 := Try.underlying73
    have HL := Aside0.mk hl
    have HO := Aside0.mk ho
    have HC := Aside0.mk hc
    have IH := Aside0.mk ih
    have hm0 : (mi == 0) = false := beq_eq_false_iff_ne.2 (by omega)
    have ewm : IntKind.i64.wrap (mi - 1) = mi - 1 := wrap_in (by omega) (by omega)
    have HMI := Aside0.mk hmi
    clear hl ho hc ih hmi
    go_enter Try.func85, Try.ntmps85
    go_wp2_with fail
    go_loopw [10] (fun v10 wr => ∃ i : Nat, v10 = .int .i64 i ∧ from_ ≤ i ∧ i ≤ hs.length ∧ Aside0 (wr.ownsRow base 3 1 (.slice A l.length c) l.length (nums .i64 l)) ∧ Aside0 (Cc w0 85 bf bm ba ex A1 c1 hs A2 c2 cs wr) ∧ Aside0 (W.grownBy wr (some bf)) ∧
        Aside0 ((List.range' i (hs.length - i)).findSome? (fun (i : Nat) => lvn ex hs m (l ++ [(i : Int)]) (i + 1)) = lvn ex hs (m + 1) l from_))
      (fun v10 _ => hs.length - (intOf v10).toNat)
    case atStart => exact ⟨from_, rfl, Nat.le_refl _, hf, HO, HC, ⟨World.grownBy.refl _ _⟩, ⟨rfl⟩⟩
    case round =>
      obtain ⟨i, rfl, hfi, hil, HOr, HCr, HGr, HF⟩ := hrel
      have m1 := HCr.out.m1
      by_cases hlt : i < hs.length
      · have hil' : (i : Int) < (hs.length : Int) := by omega
        have hi0' : (0 : Int) ≤ (i : Int) := by omega
        obtain ⟨ad, rfl, h0, h1, h2, h3⟩ := at_T73 M1.out (i : Int) (by omega) (by omega)
        obtain ⟨sv, HX⟩ : ∃ x, Aside0 (x = (hs.getD i z73).f1) := ⟨_, ⟨rfl⟩⟩
        rw [rd_T73_eq, show ((i : Int).toNat) = i from by omega, ← HX.out] at h2
        have K2 := Aside0.mk h2
        replace h2 := pw_cell_below HCr.out.bel h2
        have hrg : List.range' i (hs.length - i) = i :: List.range' (i + 1) (hs.length - (i + 1)) := by rw [show hs.length - i = (hs.length - (i + 1)) + 1 from by omega]; rfl
        have HRG := Aside0.mk hrg
        clear h0 h1 h3 hrg
        have mca := HCr.out.ca
        have HCl := Aside0.mk (Kd.R_reads' (R_nums HOr.out (Nat.le_refl _))).2.2
        have hbd : Below wr.heap.size wr wr.drew := below_drew (Below.refl _ _)
        have HBD := Aside0.mk hbd
        clear hbd
        have ewi : IntKind.i64.wrap ((i : Int) + 1) = (i : Int) + 1 := wrap_in (by omega) (by omega)
        have HBX : Aside0 (Below wr.heap.size wr (wr.drew.alloc (.cells #[.int .i64 (i : Int)] 3))) := ⟨HBD.out.alloc HBD.out.size _⟩
        have HCX := Aside0.mk (boxC wr.drew i)
        have LB : Aside0 ((l.length + 1) * 8 ≤ 140737488355328) := ⟨by omega⟩
        obtain ⟨R, HR⟩ : ∃ R, Aside0 (lvn ex hs m (l ++ [(i : Int)]) (i + 1) = R) := ⟨_, ⟨rfl⟩⟩
        have IH3 : Aside0 (∀ (v3 : Value) (w3 : World), Below wr.heap.size wr w3 → w3.ownsRow wr.heap.size 3 1 v3 (l ++ [(i : Int)]).length (nums .i64 (l ++ [(i : Int)])) → Cc w0 85 bf bm ba ex (some ad) c1 hs A2 c2 cs w3 →
            Calls Try.prog 85 #[v3, .int .i64 ((i : Int) + 1), .int .i64 (mi - 1), .pointer (some ⟨bf, 0, none⟩), .pointer (some ⟨bm, 0, none⟩), .pointer (some ⟨ba, 0, none⟩)] w3 fun e W' => e = .returned (.bool R.isSome) ∧ w3.grownBy W' (some bf) ∧ Cc w0 85 bf bm ba ex (some ad) c1 hs A2 c2 cs W' ∧ ∀ l', lvn ex hs m (l ++ [(i : Int)]) (i + 1) = some l' → ∃ v', W'.cell? ⟨bf, 0, none⟩ = some v' ∧ W'.ownsRow base 3 1 v' l'.length (nums .i64 l')) := ⟨by
          intro v3 w3 hb3 ho3 hc3
          rw [← HR.out]
          refine IH.out (l ++ [(i : Int)]) (i + 1) _ _ v3 w3 (by omega) (by have := HMI.out; omega) ?_ (by simp; omega) (by omega) (Nat.le_trans hbW (Nat.le_trans HGr.out.size hb3.size)) ?_ hc3
          · intro j hj
            rcases List.mem_append.1 hj with hj | hj
            · exact HL.out j hj
            · rw [List.mem_singleton.1 hj]; omega
          · exact own_weaken ho3 (show base ≤ wr.heap.size from Nat.le_trans hbW HGr.out.size)⟩
        cases R with
        | none =>
          simp only [Option.isSome_none] at IH3
          have HSM : Aside0 ((lvn ex hs m (l ++ [(i : Int)]) (i + 1)).isSome = false) := ⟨by rw [HR.out]; rfl⟩
          go_wp2_with fail
          go_region_held3 (fun w' => w'.cell? ⟨bm, 1, none⟩ = some (.slice (some ad) hs.length c1) ∧ w'.cell? ⟨(ad.add (i * 4)).block, (ad.add (i * 4)).off + 2, none⟩ = some (.bool sv) ∧ w'.cell? ⟨ba, 0, none⟩ = some (.func (.func 85) #[] #[.pointer (some ⟨bf, 0, none⟩), .pointer (some ⟨bm, 0, none⟩), .pointer (some ⟨ba, 0, none⟩)]))
            (first | go_keep | exact ⟨pw_cell_below HB2.out m1, pw_cell_below HB2.out h2, pw_cell_below HB2.out mca⟩ | exact ⟨pw_cell_below HBX.out m1, pw_cell_below HBX.out h2, pw_cell_below HBX.out mca⟩ | exact ⟨HC3.out.m1, pw_cell_below HC3.out.bel K2.out, HC3.out.ca⟩ | exact ⟨HC4.out.m1, pw_cell_below HC4.out.bel K2.out, HC4.out.ca⟩)
          (first
            | (go_at_call 84; refine (cloneI A c l _ (Kd.C_below HCl.out HBD.out) (by omega)).mono ?_; rintro e w2 ⟨v2, rfl, hr2, hb2⟩; have HB2 := Aside0.mk (HBD.out.trans hb2); have HO2 := Aside0.mk (Kd.own_of_R hr2); have HBY := Aside0.mk (HB2.out.alloc HB2.out.size (.cells #[.int .i64 (i : Int)] 3)); have HOY := Aside0.mk (pw_own_below HO2.out ((Below.refl w2.heap.size w2).alloc (Nat.le_refl _) (.cells #[.int .i64 (i : Int)] 3))); have HCY := Aside0.mk (boxC w2 i); clear hr2 hb2)
            | (go_at_call 84; refine (cloneI A c l _ (Kd.C_below HCl.out HBX.out) (by omega)).mono ?_; rintro e w2 ⟨v2, rfl, hr2, hb2⟩; have HBY := Aside0.mk (HBX.out.trans (hb2.mono HBX.out.size)); have HB2 := HBY; have HOY := Aside0.mk (own_weaken (Kd.own_of_R hr2) HBX.out.size); have HCY := Aside0.mk (Kd.C_below HCX.out hb2); clear hr2 hb2)
            | (refine appStep (w0 := wr) wr.heap.size (by rfl) (.tmp 28) (.tmp 30) (by rfl) v2 l i _ (by rfl) (by rfl) HOY.out HCY.out HBY.out HBY.out.size LB.out ?_; intro v3 w3 ho hb; have HO3 := Aside0.mk ho; have HB3 := Aside0.mk hb; have HC3 := Aside0.mk (HCr.out.below hb); clear ho hb)
            | (go_at_call 85; refine (IH3.out v3 w3 HB3.out HO3.out HC3.out).mono ?_; rintro e w4 ⟨rfl, hg4, hc4, hf4⟩; have HG4 := Aside0.mk hg4; have HC4 := Aside0.mk hc4; have HF4 := Aside0.mk hf4; clear hg4 hc4 hf4))
          all_goals
            go_wp2_with fail
            go_roundw
            case rel =>
              refine ⟨i + 1, by go_num, by omega, by omega, ⟨own_grown HG4.out (pw_own_below HOr.out HB3.out) (fun k hk => by injection hk with hk; omega)⟩, HC4, ⟨?_⟩, ⟨?_⟩⟩
              · exact (HGr.out.trans (grown_of_below (HB3.out) _)).trans HG4.out
              · rw [← HF.out, HRG.out, List.findSome?_cons, HR.out]
            case measure => simp [intOf]; omega
        | some l' =>
          simp only [Option.isSome_some] at IH3
          have HSM : Aside0 ((lvn ex hs m (l ++ [(i : Int)]) (i + 1)).isSome = true) := ⟨by rw [HR.out]; rfl⟩
          go_wp2_with fail
          go_region_held3 (fun w' => w'.cell? ⟨bm, 1, none⟩ = some (.slice (some ad) hs.length c1) ∧ w'.cell? ⟨(ad.add (i * 4)).block, (ad.add (i * 4)).off + 2, none⟩ = some (.bool sv) ∧ w'.cell? ⟨ba, 0, none⟩ = some (.func (.func 85) #[] #[.pointer (some ⟨bf, 0, none⟩), .pointer (some ⟨bm, 0, none⟩), .pointer (some ⟨ba, 0, none⟩)]))
            (first | go_keep | exact ⟨pw_cell_below HB2.out m1, pw_cell_below HB2.out h2, pw_cell_below HB2.out mca⟩ | exact ⟨pw_cell_below HBX.out m1, pw_cell_below HBX.out h2, pw_cell_below HBX.out mca⟩ | exact ⟨HC3.out.m1, pw_cell_below HC3.out.bel K2.out, HC3.out.ca⟩ | exact ⟨HC4.out.m1, pw_cell_below HC4.out.bel K2.out, HC4.out.ca⟩)
          (first
            | (go_at_call 84; refine (cloneI A c l _ (Kd.C_below HCl.out HBD.out) (by omega)).mono ?_; rintro e w2 ⟨v2, rfl, hr2, hb2⟩; have HB2 := Aside0.mk (HBD.out.trans hb2); have HO2 := Aside0.mk (Kd.own_of_R hr2); have HBY := Aside0.mk (HB2.out.alloc HB2.out.size (.cells #[.int .i64 (i : Int)] 3)); have HOY := Aside0.mk (pw_own_below HO2.out ((Below.refl w2.heap.size w2).alloc (Nat.le_refl _) (.cells #[.int .i64 (i : Int)] 3))); have HCY := Aside0.mk (boxC w2 i); clear hr2 hb2)
            | (go_at_call 84; refine (cloneI A c l _ (Kd.C_below HCl.out HBX.out) (by omega)).mono ?_; rintro e w2 ⟨v2, rfl, hr2, hb2⟩; have HBY := Aside0.mk (HBX.out.trans (hb2.mono HBX.out.size)); have HB2 := HBY; have HOY := Aside0.mk (own_weaken (Kd.own_of_R hr2) HBX.out.size); have HCY := Aside0.mk (Kd.C_below HCX.out hb2); clear hr2 hb2)
            | (refine appStep (w0 := wr) wr.heap.size (by rfl) (.tmp 28) (.tmp 30) (by rfl) v2 l i _ (by rfl) (by rfl) HOY.out HCY.out HBY.out HBY.out.size LB.out ?_; intro v3 w3 ho hb; have HO3 := Aside0.mk ho; have HB3 := Aside0.mk hb; have HC3 := Aside0.mk (HCr.out.below hb); clear ho hb)
            | (go_at_call 85; refine (IH3.out v3 w3 HB3.out HO3.out HC3.out).mono ?_; rintro e w4 ⟨rfl, hg4, hc4, hf4⟩; have HG4 := Aside0.mk hg4; have HC4 := Aside0.mk hc4; have HF4 := Aside0.mk hf4; clear hg4 hc4 hf4))
          all_goals
            go_wp2_with fail
            go_ret
            have hnn : lvn ex hs (m + 1) l from_ = some l' := by rw [← HF.out, HRG.out, List.findSome?_cons, HR.out]
            refine ⟨by rw [hnn]; rfl, (HGr.out.trans (grown_of_below HB3.out _)).trans HG4.out, HC4.out, fun l'' hl' => ?_⟩
            rw [hnn] at hl'
            injection hl' with hl'
            subst hl'
            exact HF4.out _ HR.out
      · obtain rfl : i = hs.length := by omega
        go_wp2_with fail
        go_ret
        have hnn : lvn ex hs (m + 1) l from_ = none := by rw [← HF.out, Nat.sub_self]; rfl
        refine ⟨by rw [hnn]; rfl, HGr.out, HCr.out, fun l' hl' => ?_⟩
        rw [hnn] at hl'
        cases hl'
end Go.Proofs.Ytgjifkegfbpjkaa.Q
end
