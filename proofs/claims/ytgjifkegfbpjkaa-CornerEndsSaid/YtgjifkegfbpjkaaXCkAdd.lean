/- Walks: the smallest corner, of package corner. -/
import Derived.Test.YtgjifkegfbpjkaaXCkKeep
import Derived.Test.YtgjifkegfbpjkaaXCkTruth
import Derived.Test.YtgjifkegfbpjkaaXQf76
import Derived.Laws.EntriesVeiled
section
namespace Go.Proofs.Ytgjifkegfbpjkaa.Q
set_option linter.unusedVariables false
open Go.RowKit Go.Maps Go.Proofs.YtgjifkegfbpjkaaW.PrintWords Go.Proofs.YtgjifkegfbpjkaaW.PrintLast Go.Proofs.YtgjifkegfbpjkaaW.PrintMore
theorem eqlNil26 (w : World) (a : Option Addr) (n c n' c' : Nat) : (binOp .eql 26 (.slice a n c) (.slice none n' c')).run Try.prog w = .ok (.bool a.isNone) w := Lib.run_eql_slice_nil w _ _ a n c n' c' Try.underlying26
theorem appI {ops : Array Oper} {rest : List Oper} {o : Oper} {a : Act} {Q : Exit → Act → World → Prop} {w0 W : World} (base : Nat) (hgd : o.guard = none) (s x : Operand)
    (ho : o.op = .call { callee := .builtin .append, args := #[s, x], argTypes := #[26, 26] }) (v : Value) (xs ys : List Int) (A : Option Addr) (m c : Nat) (hs : a.eval s = v) (hx : a.eval x = .slice A m c)
    (HO : Kd.R (Kd.int .i64) 3 W base (fun _ => True) v xs) (HR : Kd.C (Kd.int .i64) W A m ys) (HB : Below base w0 W) (hbase : base ≤ W.heap.size) (hl : (xs.length + m) * 8 ≤ 140737488355328)
    (h : ∀ v1 w1, Kd.R (Kd.int .i64) 3 w1 base (fun _ => True) v1 (xs ++ ys) → Below base w0 w1 → wpList Try.prog ops Q rest (a.put o.dst v1) w1) : wpList Try.prog ops Q (o :: rest) a W :=
  Kd.R_append_rows (Kd.int .i64) base hgd s x 26 3 (.int .i64 0) 8 ho Try.underlying26 info3 rfl (by decide) (by omega) v xs ys A m c (fun _ => True) (fun _ => False) hs hx HO HR
    (fun _ _ h => h) (fun _ h => h.elim) (fun _ _ => trivial) HB hbase hl (fun v1 w1 h1 h2 _ _ => h v1 w1 h1 h2)
set_option maxHeartbeats 1000000 in
set_option maxRecDepth 100000 in
theorem cloneI (A : Option Addr) (c : Nat) (l : List Int) (w : World) (hr : Kd.C (Kd.int .i64) w A l.length l) (h1 : l.length ≤ 1000) :
    Calls Try.prog 84 #[.slice A l.length c] w fun e w' => ∃ v, e = .returned v ∧ Kd.R (Kd.int .i64) 3 w' w.heap.size (fun _ => True) v l ∧ Below w.heap.size w w' := by
  cases A with
  | none =>
    have h0 : l = [] := by
      cases l with
      | nil => rfl
      | cons x l => exact absurd (hr.2.2 (by simp)) (by simp)
    subst h0
    have q := eqlNil26
    clear hr
    go_enter Try.func84, Try.ntmps84
    go_wp2_with fail
    go_ret
    exact ⟨_, rfl, Kd.R_of_own (own_nil _ _ _ _) (fun _ _ => trivial), Below.refl _ _⟩
  | some ad =>
  have q := eqlNil26
  have HR := Aside0.mk hr
  clear hr
  go_enter Try.func84, Try.ntmps84
  go_wp2_with (first
    | ((with_reducible refine gate_dst (N := 5) rfl ?_); refine Kd.R_lit (Kd.int .i64) _ 3 ?hg (N := 5) ?hd (xs := ([] : List Int)) (inner := []) (ok := fun _ => True) (okp := fun _ => True) ?hr ?hp (fun _ hk => hk) trivial (Below.refl _ _) (Nat.le_refl _) (by simp) ?_; (case hd => rfl); (case hg => rfl); (case hr => exact hr_); (case hp => exact (Reps.none _ _)); intro v1 w1 ho1 hb1 hg1 hn1; have HO1 := Aside0.mk ho1; have HB1 := Aside0.mk hb1; clear ho1 hb1 hg1 hn1)
    | ((with_reducible refine gate_builtin (b := .append) (xs := #[.tmp 5, .tmp 6]) rfl ?_); at_builtin; refine appI (w0 := w) w.heap.size rfl (.tmp 5) (.tmp 6) rfl v1 [] l _ _ _ rfl rfl HO1.out ?aR HB1.out HB1.out.size ?aL ?_; (case aR => exact Kd.C_below HR.out HB1.out); (case aL => simp; omega); intro v2 w2 ho2 hb2; have HO2 := Aside0.mk ho2; have HB2 := Aside0.mk hb2; clear ho2 hb2))
  go_ret
  exact ⟨_, rfl, HO2.out, HB2.out⟩
theorem boxC (w : World) (i : Int) : Kd.C (Kd.int .i64) (w.alloc (.cells #[.int .i64 i] 3)) (some ⟨w.heap.size, 0, none⟩) 1 [i] := by
  have h : (w.alloc (.cells #[.int .i64 i] 3)).ownsRow w.heap.size 3 1 (.slice (some ⟨w.heap.size, 0, none⟩) 1 1) ([i] : List Int).length (nums .i64 [i]) := by
    refine ⟨rfl, .inr ⟨w.heap.size, 1, #[.int .i64 i], rfl, Nat.le_refl _, heap_alloc_new w _, Nat.le_refl _, by decide, rfl, rfl⟩⟩
  exact (Kd.R_reads' (R_nums h (Nat.le_refl _))).2.2
theorem appStep {o : Oper} {ops : Array Oper} {a : Act} {Q : Exit → Act → World → Prop} {Kc : Act → World → Prop} {w0 W : World} (base : Nat) (hw : Region.wanted o (yielded ops a.tmps) = true) (s x : Operand)
    (ho : o.op = .call { callee := .builtin .append, args := #[s, x], argTypes := #[26, 26] }) (v : Value) (xs : List Int) (y : Int) (A : Option Addr) (hs : a.eval s = v) (hx : a.eval x = .slice A 1 1)
    (HO : W.ownsRow base 3 1 v xs.length (nums .i64 xs)) (HR : Kd.C (Kd.int .i64) W A 1 [y]) (HB : Below base w0 W) (hbase : base ≤ W.heap.size) (hl : (xs.length + 1) * 8 ≤ 140737488355328)
    (h : ∀ v1 w1, w1.ownsRow base 3 1 v1 (xs ++ [y]).length (nums .i64 (xs ++ [y])) → Below base w0 w1 → Kc (a.put o.dst v1) w1) : if Region.wanted o (yielded ops a.tmps) = true then Oper.wp Try.prog o a W Kc Q else Kc (a.put o.dst undef) W :=
  Kd.R_append_rows_step (Kd.int .i64) base hw s x 26 3 (.int .i64 0) 8 ho Try.underlying26 info3 rfl (by decide) (by omega) v xs [y] A 1 1 (fun _ => True) (fun _ => False) hs hx (R_nums HO (Nat.le_refl _)) HR
    (fun _ _ h => h) (fun _ h => h.elim) (fun _ _ => trivial) HB hbase hl (fun v1 w1 h1 h2 _ _ => h v1 w1 (Kd.own_of_R h1) h2)
def crn (ex : Int) (hs : List S73) (cs : List S75) : Nat → List Int → Nat → Option (List Int)
  | 0, l, _ => if 0 < (shortR ex (keepL hs l) cs).1 then some l else none
  | m + 1, l, from_ => (List.range' from_ (hs.length - from_)).findSome? fun i => if (hs.getD i z73).f1 = true then crn ex hs cs m (l ++ [(i : Int)]) (i + 1) else none
structure Cc (w0 : World) (fid : Nat) (bf bm ba : Nat) (ex : Int) (A1 : Option Addr) (c1 : Nat) (hs : List S73) (A2 : Option Addr) (c2 : Nat) (cs : List S75) (W : World) : Prop where
  m0 : W.cell? ⟨bm, 0, none⟩ = some (.int .i64 ex)
  m1 : W.cell? ⟨bm, 1, none⟩ = some (.slice A1 hs.length c1)
  m2 : W.cell? ⟨bm, 2, none⟩ = some (.slice A2 cs.length c2)
  ca : W.cell? ⟨ba, 0, none⟩ = some (.func (.func fid) #[] #[.pointer (some ⟨bf, 0, none⟩), .pointer (some ⟨bm, 0, none⟩), .pointer (some ⟨ba, 0, none⟩)])
  cf : ∃ A n c, W.cell? ⟨bf, 0, none⟩ = some (.slice A n c)
  ff : W.frozen? ⟨bf, 0, none⟩ = false
  bel : Below w0.heap.size w0 W
  b0 : w0.heap.size ≤ bf
  ne1 : bm ≠ bf
  ne2 : ba ≠ bf
theorem grown_set (W : World) (b : Nat) (v : Value) : W.grownBy (W.setCell ⟨b, 0, none⟩ v) (some b) :=
  ⟨rfl, rfl, rfl, by simp [World.setCell], fun k hk hne => Below.heap_setCell _ _ _ _ (fun e => hne (by rw [e]))⟩
section
variable {w0 : World} {fid bf bm ba : Nat} {ex : Int} {A1 : Option Addr} {c1 : Nat} {hs : List S73} {A2 : Option Addr} {c2 : Nat} {cs : List S75} {W W' : World}
theorem Cc.found (h : Cc w0 fid bf bm ba ex A1 c1 hs A2 c2 cs W) (A : Option Addr) (n c : Nat) : Cc w0 fid bf bm ba ex A1 c1 hs A2 c2 cs (W.setCell ⟨bf, 0, none⟩ (.slice A n c)) := by
  obtain ⟨m0, m1, m2, ca, ⟨Af, nf, cf, hcf⟩, ff, bel, b0, n1, n2⟩ := h
  have f1 : bf ≠ bm := fun e => n1 e.symm
  have f2 : bf ≠ ba := fun e => n2 e.symm
  exact ⟨(World.cell?_setCell_far _ _ _ _ f1).trans m0, (World.cell?_setCell_far _ _ _ _ f1).trans m1, (World.cell?_setCell_far _ _ _ _ f1).trans m2, (World.cell?_setCell_far _ _ _ _ f2).trans ca, ⟨A, n, c, World.cell?_setCell_same' _ _ _ (by rw [hcf]; rfl)⟩, by rw [World.frozen?_setCell]; exact ff, bel.setCell (p := ⟨bf, 0, none⟩) b0 _, b0, n1, n2⟩
theorem Cc.below (h : Cc w0 fid bf bm ba ex A1 c1 hs A2 c2 cs W) (hb : Below W.heap.size W W') : Cc w0 fid bf bm ba ex A1 c1 hs A2 c2 cs W' := by
  obtain ⟨m0, m1, m2, ca, ⟨Af, nf, cf, hcf⟩, ff, bel, b0, n1, n2⟩ := h
  exact ⟨pw_cell_below hb m0, pw_cell_below hb m1, pw_cell_below hb m2, pw_cell_below hb ca, ⟨Af, nf, cf, pw_cell_below hb hcf⟩, fz_below hb ff (World.block_lt_of_cell? W _ hcf), bel.trans (hb.mono bel.size), b0, n1, n2⟩
end
set_option maxHeartbeats 2000000 in
set_option maxRecDepth 100000 in
theorem add_calls (w0 : World) (bf bm ba : Nat) (ex : Int) (A1 : Option Addr) (c1 : Nat) (hs : List S73) (A2 : Option Addr) (c2 : Nat) (cs : List S75) (M1 : Aside0 (Kd.C k73 w0 A1 hs.length hs)) (M2 : Aside0 (Kd.C k75 w0 A2 cs.length cs)) (HOK : Aside0 (okCs cs)) (HV : Aside0 (∀ h ∈ hs, vH h = true)) (hn : hs.length ≤ 6) (hn0 : 0 < hs.length) (HE : Aside0 (1 ≤ ex ∧ ex ≤ 200)) (base : Nat) (hbf : bf < base) :
    ∀ (m : Nat) (l : List Int) (from_ : Nat) (fi mi : Int) (v : Value) (W : World), fi = (from_ : Int) → mi = (m : Int) → (∀ i ∈ l, 0 ≤ i ∧ i < (hs.length : Int)) → l.length + m ≤ 7 → from_ ≤ hs.length → base ≤ W.heap.size → W.ownsRow base 3 1 v l.length (nums .i64 l) → Cc w0 83 bf bm ba ex A1 c1 hs A2 c2 cs W →
    Calls Try.prog 83 #[v, .int .i64 fi, .int .i64 mi, .pointer (some ⟨bf, 0, none⟩), .pointer (some ⟨bm, 0, none⟩), .pointer (some ⟨ba, 0, none⟩)] W fun e W' => e = .returned (.bool (crn ex hs cs m l from_).isSome) ∧ W.grownBy W' (some bf) ∧ Cc w0 83 bf bm ba ex A1 c1 hs A2 c2 cs W' ∧ ∀ l', crn ex hs cs m l from_ = some l' → ∃ v', W'.cell? ⟨bf, 0, none⟩ = some v' ∧ W'.ownsRow base 3 1 v' l'.length (nums .i64 l') := by
  intro m
  induction m with
  | zero =>
    intro l from_ fi mi v W hfi hmi hl hlm hf hbW ho hc
    subst hfi hmi
    obtain ⟨A, c, rfl⟩ := own_slice ho
    have hu35 := Try.underlying35
    have hu46 := Try.underlying46
    have HL := Aside0.mk hl
    have HO := Aside0.mk ho
    have HC := Aside0.mk hc
    have m0 := hc.m0
    have m1 := hc.m1
    have m2 := hc.m2
    have ff := hc.ff
    obtain ⟨Af, nf, cf, hcf⟩ := hc.cf
    have m0' := (World.cell?_setCell_far W ⟨bf, 0, none⟩ ⟨bm, 0, none⟩ (.slice A l.length c) (fun e => hc.ne1 e.symm)).trans m0
    have m1' := (World.cell?_setCell_far W ⟨bf, 0, none⟩ ⟨bm, 1, none⟩ (.slice A l.length c) (fun e => hc.ne1 e.symm)).trans m1
    have m2' := (World.cell?_setCell_far W ⟨bf, 0, none⟩ ⟨bm, 2, none⟩ (.slice A l.length c) (fun e => hc.ne1 e.symm)).trans m2
    have HOS := Aside0.mk (own_grown (grown_set W bf (.slice A l.length c)) ho (fun k hk => by injection hk with hk; omega))
    have HB := Aside0.mk (hc.bel.setCell (p := ⟨bf, 0, none⟩) hc.b0 (.slice A l.length c))
    have hfd : ∀ (a b : Int) (w : World), (Instr.field 46 (.agg #[.int .i64 a, .int .i64 b]) 0).run Try.prog w = .ok (.int .i64 a) w := fun _ _ _ => by kernel_rfl
    clear hl ho hc m0 m1 m2
    go_enter Try.func83, Try.ntmps83
    go_wp2_with fail
    refine (keeping_calls ex A1 c1 hs A2 c2 cs A c l _ (Kd.C_below M1.out HB.out) (Kd.C_below M2.out HB.out) ?_ HOK.out HV.out hn hn0 HE.out HL.out).mono ?_
    · exact (Kd.R_reads' (R_nums (HOS.out) (Nat.le_refl _))).2.2
    rintro e w1 ⟨rfl, hb⟩
    have HBW := Aside0.mk hb
    clear hb
    obtain ⟨lo, HLO⟩ : ∃ lo, Aside0 (lo = (shortR ex (keepL hs l) cs).1) := ⟨_, ⟨rfl⟩⟩
    rw [← HLO.out]
    go_wp2_with fail
    go_ret
    refine ⟨?_, ?_, ?_, ?_⟩
    · rw [crn, ← HLO.out]
      by_cases hlo : 0 < lo
      · rw [if_pos hlo]; simp [hlo]
      · rw [if_neg hlo]; simp [hlo]
    · exact (grown_set W bf _).trans (grown_of_below HBW.out _)
    · exact (HC.out.found _ _ _).below HBW.out
    · intro l' hl'
      rw [crn, ← HLO.out] at hl'
      split at hl'
      · injection hl' with hl'
        subst hl'
        exact ⟨_, pw_cell_below HBW.out (World.cell?_setCell_same' _ _ _ (by rw [hcf]; rfl)), pw_own_below HOS.out HBW.out⟩
      · cases hl'
  | succ m ih =>
    intro l from_ fi mi v W hfi hmi hl hlm hf hbW ho hc
    subst hfi
    obtain ⟨A, c, rfl⟩ := own_slice ho
    have hu35 := Try.underlying35
    have hu73 := Try.underlying73
    have HL := Aside0.mk hl
    have HO := Aside0.mk ho
    have HC := Aside0.mk hc
    have IH := Aside0.mk ih
    have hm0 : (mi == 0) = false := beq_eq_false_iff_ne.2 (by omega)
    have ewm : IntKind.i64.wrap (mi - 1) = mi - 1 := wrap_in (by omega) (by omega)
    have HMI := Aside0.mk hmi
    clear hl ho hc ih hmi
    go_enter Try.func83, Try.ntmps83
    go_wp2_with fail
    go_loopw [10] (fun v10 wr => ∃ i : Nat, v10 = .int .i64 i ∧ from_ ≤ i ∧ i ≤ hs.length ∧ Aside0 (wr.ownsRow base 3 1 (.slice A l.length c) l.length (nums .i64 l)) ∧ Aside0 (Cc w0 83 bf bm ba ex A1 c1 hs A2 c2 cs wr) ∧ Aside0 (W.grownBy wr (some bf)) ∧
        Aside0 ((List.range' i (hs.length - i)).findSome? (fun i => if (hs.getD i z73).f1 = true then crn ex hs cs m (l ++ [(i : Int)]) (i + 1) else none) = crn ex hs cs (m + 1) l from_))
      (fun v10 _ => hs.length - (intOf v10).toNat)
    case atStart => exact ⟨from_, rfl, Nat.le_refl _, hf, HO, HC, ⟨World.grownBy.refl _ _⟩, ⟨rfl⟩⟩
    case round =>
      obtain ⟨i, rfl, hfi, hil, HOr, HCr, HGr, HF⟩ := hrel
      have m1 := HCr.out.m1
      by_cases hlt : i < hs.length
      · have hil' : (i : Int) < (hs.length : Int) := by omega
        have hi0' : (0 : Int) ≤ (i : Int) := by omega
        obtain ⟨ad, rfl, h0, h1, h2, h3⟩ := at_T73 M1.out (i : Int) (by omega) (by omega)
        obtain ⟨sv, HX⟩ : ∃ x, Aside0 (x = (hs.getD i z73).f1) := ⟨_, ⟨rfl⟩⟩
        rw [rd_T73_eq, show ((i : Int).toNat) = i from by omega, ← HX.out] at h2
        have K2 := Aside0.mk h2
        replace h2 := pw_cell_below HCr.out.bel h2
        have hrg : List.range' i (hs.length - i) = i :: List.range' (i + 1) (hs.length - (i + 1)) := by rw [show hs.length - i = (hs.length - (i + 1)) + 1 from by omega]; rfl
        have HRG := Aside0.mk hrg
        clear h0 h1 h3 hrg
        cases sv with
        | false =>
          go_wp2_with fail
          go_quiet (fail)
          go_wp2_with fail
          have hbd := pw_below_drewN (Below.refl wr.heap.size wr) nq
          go_roundw
          case rel =>
            refine ⟨i + 1, by go_num, by omega, by omega, ⟨pw_own_below HOr.out hbd⟩, ⟨HCr.out.below hbd⟩, ⟨HGr.out.trans (grown_of_below hbd _)⟩, ⟨?_⟩⟩
            rw [← HF.out, HRG.out, List.findSome?_cons, if_neg (by rw [← HX.out]; simp)]
          case measure => simp [intOf]; omega
        | true =>
          have mca := HCr.out.ca
          have HCl := Aside0.mk (Kd.R_reads' (R_nums HOr.out (Nat.le_refl _))).2.2
          have hbd : Below wr.heap.size wr wr.drew := below_drew (Below.refl _ _)
          have HBD := Aside0.mk hbd
          clear hbd
          have ewi : IntKind.i64.wrap ((i : Int) + 1) = (i : Int) + 1 := wrap_in (by omega) (by omega)
          have HBX : Aside0 (Below wr.heap.size wr (wr.drew.alloc (.cells #[.int .i64 (i : Int)] 3))) := ⟨HBD.out.alloc HBD.out.size _⟩
          have HCX := Aside0.mk (boxC wr.drew i)
          have LB : Aside0 ((l.length + 1) * 8 ≤ 140737488355328) := ⟨by omega⟩
          obtain ⟨R, HR⟩ : ∃ R, Aside0 (crn ex hs cs m (l ++ [(i : Int)]) (i + 1) = R) := ⟨_, ⟨rfl⟩⟩
          have IH3 : Aside0 (∀ (v3 : Value) (w3 : World), Below wr.heap.size wr w3 → w3.ownsRow wr.heap.size 3 1 v3 (l ++ [(i : Int)]).length (nums .i64 (l ++ [(i : Int)])) → Cc w0 83 bf bm ba ex (some ad) c1 hs A2 c2 cs w3 →
              Calls Try.prog 83 #[v3, .int .i64 ((i : Int) + 1), .int .i64 (mi - 1), .pointer (some ⟨bf, 0, none⟩), .pointer (some ⟨bm, 0, none⟩), .pointer (some ⟨ba, 0, none⟩)] w3 fun e W' => e = .returned (.bool R.isSome) ∧ w3.grownBy W' (some bf) ∧ Cc w0 83 bf bm ba ex (some ad) c1 hs A2 c2 cs W' ∧ ∀ l', crn ex hs cs m (l ++ [(i : Int)]) (i + 1) = some l' → ∃ v', W'.cell? ⟨bf, 0, none⟩ = some v' ∧ W'.ownsRow base 3 1 v' l'.length (nums .i64 l')) := ⟨by
            intro v3 w3 hb3 ho3 hc3
            rw [← HR.out]
            refine IH.out (l ++ [(i : Int)]) (i + 1) _ _ v3 w3 (by omega) (by have := HMI.out; omega) ?_ (by simp; omega) (by omega) (Nat.le_trans hbW (Nat.le_trans HGr.out.size hb3.size)) ?_ hc3
            · intro j hj
              rcases List.mem_append.1 hj with hj | hj
              · exact HL.out j hj
              · rw [List.mem_singleton.1 hj]; omega
            · exact own_weaken ho3 (show base ≤ wr.heap.size from Nat.le_trans hbW HGr.out.size)⟩
          cases R with
          | none =>
            simp only [Option.isSome_none] at IH3
            have HSM : Aside0 ((crn ex hs cs m (l ++ [(i : Int)]) (i + 1)).isSome = false) := ⟨by rw [HR.out]; rfl⟩
            go_wp2_with fail
            go_region_held3 (fun w' => w'.cell? ⟨bm, 1, none⟩ = some (.slice (some ad) hs.length c1) ∧ w'.cell? ⟨(ad.add (i * 4)).block, (ad.add (i * 4)).off + 2, none⟩ = some (.bool true) ∧ w'.cell? ⟨ba, 0, none⟩ = some (.func (.func 83) #[] #[.pointer (some ⟨bf, 0, none⟩), .pointer (some ⟨bm, 0, none⟩), .pointer (some ⟨ba, 0, none⟩)]))
              (first | go_keep | exact ⟨pw_cell_below HB2.out m1, pw_cell_below HB2.out h2, pw_cell_below HB2.out mca⟩ | exact ⟨pw_cell_below HBX.out m1, pw_cell_below HBX.out h2, pw_cell_below HBX.out mca⟩ | exact ⟨HC3.out.m1, pw_cell_below HC3.out.bel K2.out, HC3.out.ca⟩ | exact ⟨HC4.out.m1, pw_cell_below HC4.out.bel K2.out, HC4.out.ca⟩)
            (first
              | (go_at_call 84; refine (cloneI A c l _ (Kd.C_below HCl.out HBD.out) (by omega)).mono ?_; rintro e w2 ⟨v2, rfl, hr2, hb2⟩; have HB2 := Aside0.mk (HBD.out.trans hb2); have HO2 := Aside0.mk (Kd.own_of_R hr2); have HBY := Aside0.mk (HB2.out.alloc HB2.out.size (.cells #[.int .i64 (i : Int)] 3)); have HOY := Aside0.mk (pw_own_below HO2.out ((Below.refl w2.heap.size w2).alloc (Nat.le_refl _) (.cells #[.int .i64 (i : Int)] 3))); have HCY := Aside0.mk (boxC w2 i); clear hr2 hb2)
              | (go_at_call 84; refine (cloneI A c l _ (Kd.C_below HCl.out HBX.out) (by omega)).mono ?_; rintro e w2 ⟨v2, rfl, hr2, hb2⟩; have HBY := Aside0.mk (HBX.out.trans (hb2.mono HBX.out.size)); have HB2 := HBY; have HOY := Aside0.mk (own_weaken (Kd.own_of_R hr2) HBX.out.size); have HCY := Aside0.mk (Kd.C_below HCX.out hb2); clear hr2 hb2)
              | (refine appStep (w0 := wr) wr.heap.size (by rfl) (.tmp 36) (.tmp 38) (by rfl) v2 l i _ (by rfl) (by rfl) HOY.out HCY.out HBY.out HBY.out.size LB.out ?_; intro v3 w3 ho hb; have HO3 := Aside0.mk ho; have HB3 := Aside0.mk hb; have HC3 := Aside0.mk (HCr.out.below hb); clear ho hb)
              | (go_at_call 83; refine (IH3.out v3 w3 HB3.out HO3.out HC3.out).mono ?_; rintro e w4 ⟨rfl, hg4, hc4, hf4⟩; have HG4 := Aside0.mk hg4; have HC4 := Aside0.mk hc4; have HF4 := Aside0.mk hf4; clear hg4 hc4 hf4))
            all_goals
              go_wp2_with fail
              go_roundw
              case rel =>
                refine ⟨i + 1, by go_num, by omega, by omega, ⟨own_grown HG4.out (pw_own_below HOr.out HB3.out) (fun k hk => by injection hk with hk; omega)⟩, HC4, ⟨?_⟩, ⟨?_⟩⟩
                · exact (HGr.out.trans (grown_of_below (HB3.out) _)).trans HG4.out
                · rw [← HF.out, HRG.out, List.findSome?_cons, if_pos (by rw [← HX.out]), HR.out]
              case measure => simp [intOf]; omega
          | some l' =>
            simp only [Option.isSome_some] at IH3
            have HSM : Aside0 ((crn ex hs cs m (l ++ [(i : Int)]) (i + 1)).isSome = true) := ⟨by rw [HR.out]; rfl⟩
            go_wp2_with fail
            go_region_held3 (fun w' => w'.cell? ⟨bm, 1, none⟩ = some (.slice (some ad) hs.length c1) ∧ w'.cell? ⟨(ad.add (i * 4)).block, (ad.add (i * 4)).off + 2, none⟩ = some (.bool true) ∧ w'.cell? ⟨ba, 0, none⟩ = some (.func (.func 83) #[] #[.pointer (some ⟨bf, 0, none⟩), .pointer (some ⟨bm, 0, none⟩), .pointer (some ⟨ba, 0, none⟩)]))
              (first | go_keep | exact ⟨pw_cell_below HB2.out m1, pw_cell_below HB2.out h2, pw_cell_below HB2.out mca⟩ | exact ⟨pw_cell_below HBX.out m1, pw_cell_below HBX.out h2, pw_cell_below HBX.out mca⟩ | exact ⟨HC3.out.m1, pw_cell_below HC3.out.bel K2.out, HC3.out.ca⟩ | exact ⟨HC4.out.m1, pw_cell_below HC4.out.bel K2.out, HC4.out.ca⟩)
            (first
              | (go_at_call 84; refine (cloneI A c l _ (Kd.C_below HCl.out HBD.out) (by omega)).mono ?_; rintro e w2 ⟨v2, rfl, hr2, hb2⟩; have HB2 := Aside0.mk (HBD.out.trans hb2); have HO2 := Aside0.mk (Kd.own_of_R hr2); have HBY := Aside0.mk (HB2.out.alloc HB2.out.size (.cells #[.int .i64 (i : Int)] 3)); have HOY := Aside0.mk (pw_own_below HO2.out ((Below.refl w2.heap.size w2).alloc (Nat.le_refl _) (.cells #[.int .i64 (i : Int)] 3))); have HCY := Aside0.mk (boxC w2 i); clear hr2 hb2)
              | (go_at_call 84; refine (cloneI A c l _ (Kd.C_below HCl.out HBX.out) (by omega)).mono ?_; rintro e w2 ⟨v2, rfl, hr2, hb2⟩; have HBY := Aside0.mk (HBX.out.trans (hb2.mono HBX.out.size)); have HB2 := HBY; have HOY := Aside0.mk (own_weaken (Kd.own_of_R hr2) HBX.out.size); have HCY := Aside0.mk (Kd.C_below HCX.out hb2); clear hr2 hb2)
              | (refine appStep (w0 := wr) wr.heap.size (by rfl) (.tmp 36) (.tmp 38) (by rfl) v2 l i _ (by rfl) (by rfl) HOY.out HCY.out HBY.out HBY.out.size LB.out ?_; intro v3 w3 ho hb; have HO3 := Aside0.mk ho; have HB3 := Aside0.mk hb; have HC3 := Aside0.mk (HCr.out.below hb); clear ho hb)
              | (go_at_call 83; refine (IH3.out v3 w3 HB3.out HO3.out HC3.out).mono ?_; rintro e w4 ⟨rfl, hg4, hc4, hf4⟩; have HG4 := Aside0.mk hg4; have HC4 := Aside0.mk hc4; have HF4 := Aside0.mk hf4; clear hg4 hc4 hf4))
            all_goals
              go_wp2_with fail
              go_ret
              have hnn : crn ex hs cs (m + 1) l from_ = some l' := by rw [← HF.out, HRG.out, List.findSome?_cons, if_pos (by rw [← HX.out]), HR.out]
              refine ⟨by rw [hnn]; rfl, (HGr.out.trans (grown_of_below HB3.out _)).trans HG4.out, HC4.out, fun l'' hl' => ?_⟩
              rw [hnn] at hl'
              injection hl' with hl'
              subst hl'
              exact HF4.out _ HR.out
      · obtain rfl : i = hs.length := by omega
        go_wp2_with fail
        go_ret
        have hnn : crn ex hs cs (m + 1) l from_ = none := by rw [← HF.out, Nat.sub_self]; rfl
        refine ⟨by rw [hnn]; rfl, HGr.out, HCr.out, fun l' hl' => ?_⟩
        rw [hnn] at hl'
        cases hl'
end Go.Proofs.Ytgjifkegfbpjkaa.Q
end
