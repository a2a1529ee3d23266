/- Walks: the minimum of a lack, spot by spot, of package corner. -/
import Derived.Test.YtgjifkegfbpjkaaXMemo
import Derived.Test.YtgjifkegfbpjkaaXSmall
section
namespace Go.Proofs.Ytgjifkegfbpjkaa.Q
set_option linter.unusedVariables false
open Go.RowKit Go.Maps Go.Proofs.YtgjifkegfbpjkaaW.PrintWords Go.Proofs.YtgjifkegfbpjkaaW.PrintLast Go.Proofs.YtgjifkegfbpjkaaW.PrintMore
def lk (up s : Bool) (p : Int) : Int := if up = true then sp s p - nd p else nd p - sp s p
def nev : Int := 1048576
def lmin (F V : Nat → Int) : Nat → Int
  | 0 => nev
  | k + 1 => if F k = nev then lmin F V k else mi (lmin F V k) (F k + V k)
def lst (up : Bool) (cs : List S75) : List S73 → Int → Int → Int
  | [], _, left => if left = 0 then 0 else nev
  | h :: hs, i, left => lmin (fun k => lst up cs hs (i + 1) (left - (h.f0.f0 + k))) (fun k => lk up h.f1 (ow cs i + (h.f0.f0 + k))) (mi h.f0.f1 left - h.f0.f0 + 1).toNat
theorem lk_bound (up s : Bool) (p b : Int) (h1 : -b ≤ p) (h2 : p ≤ b) : -b ≤ lk up s p ∧ lk up s p ≤ b := by
  unfold lk sp nd
  cases up <;> cases s <;> simp <;> (repeat' split) <;> omega
theorem lmin_bound (F V : Nat → Int) (B : Int) (hB : 0 ≤ B) : ∀ n, (∀ k, k < n → (F k = nev ∨ -B ≤ F k + V k)) → -B ≤ lmin F V n ∧ lmin F V n ≤ nev
  | 0, _ => by simp [lmin, nev]; omega
  | n + 1, h => by
    have ih := lmin_bound F V B hB n (fun k hk => h k (by omega))
    have h1 := h n (by omega)
    unfold lmin
    split
    · exact ih
    · rename_i h2
      unfold mi
      split <;> omega
theorem lst_bound (up : Bool) (cs : List S75) : ∀ (hs : List S73) (i left : Int), (∀ h ∈ hs, vH h = true) → okCs cs → -(2000 * (hs.length : Int)) ≤ lst up cs hs i left ∧ lst up cs hs i left ≤ nev
  | [], i, left, _, _ => by
    unfold lst
    split <;> simp [nev]
  | h :: hs, i, left, hv, hc => by
    have h1 := (vH_iff h).1 (hv h List.mem_cons_self)
    unfold lst
    have := lmin_bound (fun k => lst up cs hs (i + 1) (left - (h.f0.f0 + k))) (fun k => lk up h.f1 (ow cs i + (h.f0.f0 + k))) (2000 * ((h :: hs).length : Int)) (by omega) (mi h.f0.f1 left - h.f0.f0 + 1).toNat (fun k hk => .inr (by
      have ih := lst_bound up cs hs (i + 1) (left - (h.f0.f0 + k)) (fun h hh => hv h (List.mem_cons_of_mem _ hh)) hc
      have ho := ow_bound cs i (fun c hcc => by have := hc.2 c hcc; omega)
      have hl := hc.1
      have hk2 : h.f0.f0 + (k : Int) ≤ 200 := by
        have : mi h.f0.f1 left ≤ h.f0.f1 := by unfold mi; split <;> omega
        omega
      have hb := lk_bound up h.f1 (ow cs i + (h.f0.f0 + k)) 1800 (by omega) (by omega)
      rw [List.length_cons]
      omega))
    exact this
theorem lack_f (up : Bool) (a b : Int) (s : Bool) (c p : Int) (h1 : -1000000000 ≤ p) (h2 : p ≤ 1000000000) : (if up = true then corner_House_surplus.f a b s c p else corner_House_short.f a b s c p) = some (lk up s p) := by
  have hn := need_f a b s c p (by omega) (by omega)
  have hs := spare_f a b s c p
  have hb := lk_bound up s p 1000000000 h1 h2
  unfold corner_House_surplus.f corner_House_short.f
  rw [hn, hs]
  simp only [Option.bind_some]
  cases up <;> simp only [lk] at hb ⊢ <;> simp at hb ⊢ <;> (unfold wrap64; omega)
theorem wrap_in {x : Int} (h1 : -9000000000000000000 ≤ x) (h2 : x ≤ 9000000000000000000) : IntKind.i64.wrap x = x := by
  rw [IntKind.wrap_i64]
  omega
structure Wk (w0 : World) (g b : Nat) (A1 : Option Addr) (c1 : Nat) (hs : List S73) (cs : List S75) (up : Bool) (W : World) : Prop where
  c1 : W.cell? ⟨g, 1, none⟩ = some (.slice A1 hs.length c1)
  cO : ∀ j : Nat, j < 6 → W.cell? ⟨g, 3 + j, none⟩ = some (.int .i64 (ow cs j))
  cF : W.cell? ⟨g, 9, none⟩ = some (.func (.func (if up = true then 78 else 77)) #[] #[])
  cM : W.cell? ⟨g, 10, none⟩ = some (.map (some b))
  bel : Below w0.heap.size w0 W
  lt : g < W.heap.size
  gb : g ≠ b
  b0 : w0.heap.size ≤ b
section
variable {w0 : World} {g b : Nat} {A1 : Option Addr} {c1 : Nat} {hs : List S73} {cs : List S75} {up : Bool} {W W' : World}
theorem Wk.grown (h : Wk w0 g b A1 c1 hs cs up W) (hg : W.grownBy W' (some b)) : Wk w0 g b A1 c1 hs cs up W' := by
  obtain ⟨k1, k2, k3, k4, k5, k6, k7, k8⟩ := h
  have hne : (some b : Option Nat) ≠ some g := fun e => k7 (by injection e with e; exact e.symm)
  exact ⟨grown_cell hg k1 hne, fun j hj => grown_cell hg (k2 j hj) hne, grown_cell hg k3 hne, grown_cell hg k4 hne, k5.grown hg k5.size (fun k hk => by injection hk with hk; omega), Nat.lt_of_lt_of_le k6 hg.size, k7, k8⟩
theorem Wk.below (h : Wk w0 g b A1 c1 hs cs up W) (hg : Below W.heap.size W W') : Wk w0 g b A1 c1 hs cs up W' := h.grown (grown_of_below hg _)
end
def cnt : Nat → Nat
  | 0 => 0
  | n + 1 => 201 * cnt n + 1
set_option maxHeartbeats 2000000 in
set_option maxRecDepth 100000 in
theorem least_calls (w0 : World) (g b : Nat) (A1 : Option Addr) (c1 : Nat) (hs : List S73) (cs : List S75) (up : Bool) (m1 : Kd.C k73 w0 A1 hs.length hs) (hv : ∀ h ∈ hs, vH h = true) (hn : hs.length ≤ 6) (hok : okCs cs) :
    ∀ (m : Nat) (i : Nat) (ii : Int) (left : Int) (n : Nat) (W : World), ii = (i : Int) → i + m = hs.length → -100000 ≤ left → left ≤ 200 → n + cnt m ≤ 1000000000000000 → Wk w0 g b A1 c1 hs cs up W → Memo W b n (fun i left => lst up cs (hs.drop i.toNat) i left) →
    Calls Try.prog 112 #[.pointer (some ⟨g, 0, none⟩), .agg #[.int .i64 ii, .int .i64 left]] W fun e W' => e = .returned (.int .i64 (lst up cs (hs.drop i) ii left)) ∧ Memo W' b (n + cnt m) (fun i left => lst up cs (hs.drop i.toNat) i left) ∧ W.grownBy W' (some b) := by
  intro m
  induction m with
  | zero =>
    intro i ii left n W hii him hl1 hl2 hcn hW hM
    subst hii
    obtain rfl : i = hs.length := by omega
    have hu35 := Try.underlying35
    have hu157 := Try.underlying157
    have hu160 := Try.underlying160
    have HW := Aside0.mk hW
    have HM := Aside0.mk hM
    have hc1 := hW.c1
    have hlt := hW.lt
    have hne : ((hs.length : Int) == (hs.length : Int)) = true := by simp
    have HR : Aside0 (lst up cs (hs.drop hs.length) hs.length left = if left = 0 then 0 else nev) := ⟨by rw [List.drop_length, lst]⟩
    clear hW hM him m1 hv hok
    by_cases h0 : left = 0
    · have hlb : (left == 0) = true := by simp [h0]
      have HR2 : Aside0 (lst up cs (hs.drop hs.length) hs.length left = 0) := ⟨by rw [HR.out, if_pos h0]⟩
      clear h0 HR
      go_enter Try.func112, Try.ntmps112
      go_wp2_with fail
      go_quiet (fail)
      go_wp2_with fail
      go_ret
      have hb := Below.alloc (Below.refl W.heap.size W) (Nat.le_refl _) (.cells #[.int .i64 (hs.length : Int), .int .i64 left] 160)
      exact ⟨ret_i64 HR2.out.symm, HM.out.kept (grown_of_below (pw_below_drewN hb nq) none) (by simp), grown_of_below (pw_below_drewN hb nq) _⟩
    · have hlb : (left == 0) = false := beq_eq_false_iff_ne.2 h0
      have HR2 : Aside0 (lst up cs (hs.drop hs.length) hs.length left = 1048576) := ⟨by rw [HR.out, if_neg h0]; rfl⟩
      clear h0 HR
      go_enter Try.func112, Try.ntmps112
      go_wp2_with fail
      go_quiet (fail)
      go_wp2_with fail
      go_ret
      have hb := Below.alloc (Below.refl W.heap.size W) (Nat.le_refl _) (.cells #[.int .i64 (hs.length : Int), .int .i64 left] 160)
      exact ⟨ret_i64 HR2.out.symm, HM.out.kept (grown_of_below (pw_below_drewN hb nq) none) (by simp), grown_of_below (pw_below_drewN hb nq) _⟩
  | succ m ih =>
    intro i ii left n W hii him hl1 hl2 hcn hW hM
    subst hii
    have hu35 := Try.underlying35
    have hu73 := Try.underlying73
    have hu157 := Try.underlying157
    have hu160 := Try.underlying160
    have hil : i < hs.length := by omega
    have M1 := Aside0.mk m1
    have HV := Aside0.mk hv
    have HOK := Aside0.mk hok
    have HW := Aside0.mk hW
    have HM := Aside0.mk hM
    have IH := Aside0.mk ih
    have hc1 := hW.c1
    have hcM := hW.cM
    have hlt := hW.lt
    have hne : ((i : Int) == (hs.length : Int)) = false := beq_eq_false_iff_ne.2 (by omega)
    have hi6 : i ≤ 6 := by omega
    have HIM := Aside0.mk him
    clear m1 hv hok hW hM ih him
    go_enter Try.func112, Try.ntmps112
    go_wp2_with fail
    go_quiet (fail)
    go_wp2_with fail
    have hb0 : Below W.heap.size W ((W.alloc (.cells #[.int .i64 i, .int .i64 left] 160)).drewN nq) := pw_below_drewN ((Below.refl _ _).alloc (Nat.le_refl _) _) nq
    have hsz : W.heap.size < ((W.alloc (.cells #[.int .i64 i, .int .i64 left] 160)).drewN nq).heap.size := by simp
    have s0 : ((W.alloc (.cells #[.int .i64 i, .int .i64 left] 160)).drewN nq).cell? ⟨W.heap.size, 0, none⟩ = some (.int .i64 i) := by simp
    have s1 : ((W.alloc (.cells #[.int .i64 i, .int .i64 left] 160)).drewN nq).cell? ⟨W.heap.size, 1, none⟩ = some (.int .i64 left) := by simp
    have HG1 := Aside0.mk (grown_of_below hb0 (some b))
    have HW1 := Aside0.mk (HW.out.below hb0)
    have HM1 := Aside0.mk (HM.out.kept (grown_of_below hb0 none) (by simp))
    clear hb0 hc1 hcM
    generalize (W.alloc (.cells #[.int .i64 i, .int .i64 left] 160)).drewN nq = W1 at *
    have HSB : Aside0 (w0.heap.size ≤ W.heap.size ∧ b < W.heap.size) := ⟨HW.out.bel.size, HM.out.lt⟩
    have hgs : ¬ W.heap.size = g := by omega
    generalize W.heap.size = sb at *
    have hc1 := HW1.out.c1
    have hcM := HW1.out.cM
    have wi : (Lit.int .i64 (i : Int)).wf = true := WalkArith.wf_i64 (by omega)
    have wl : (Lit.int .i64 left).wf = true := WalkArith.wf_i64 (by omega)
    obtain ⟨v, ok, hrun, hv⟩ := HM1.out.look i left wi wl
    have hr : ∀ n, (Instr.lookup 155 (.map (some b)) (.agg #[.int .i64 i, .int .i64 left]) true).run Try.prog (W1.drewN n) = .ok (.tuple #[.int .i64 v, .bool ok]) (W1.drewN n) := fun n => hrun _ rfl
    have HVV := Aside0.mk hv
    clear hrun hv
    cases ok with
    | true =>
      have HR := Aside0.mk (HVV.out rfl)
      clear HVV
      go_quiet (fail)
      go_wp2_with fail
      go_ret
      refine ⟨ret_i64 (by rw [HR.out]; simp), (HM1.out.kept (grown_of_below (pw_below_drewN (Below.refl _ _) _) none) (by simp)).mono (by omega), HG1.out.trans (grown_of_below (pw_below_drewN (Below.refl _ _) _) _)⟩
    | false =>
      clear HVV
      go_quiet (fail)
      go_wp2_with fail
      have hb1 : Below W1.heap.size W1 (W1.drewN nq) := pw_below_drewN (Below.refl _ _) nq
      have HG2 := Aside0.mk (HG1.out.trans (grown_of_below hb1 (some b)))
      have HW2 := Aside0.mk (HW1.out.below hb1)
      have HM2 := Aside0.mk (HM1.out.kept (grown_of_below hb1 none) (by simp))
      have hsz2 := Nat.lt_of_lt_of_le hsz hb1.size
      have s02 := pw_cell_below hb1 s0
      have s12 := pw_cell_below hb1 s1
      clear hb1 hr hc1 hcM s0 s1 hsz HW1 HM1 HG1
      generalize W1.drewN nq = W2 at *
      have hc1 := HW2.out.c1
      obtain ⟨ad, rfl, h0, h1, h2, h3⟩ := at_T73 (Kd.C_below M1.out HW2.out.bel) (i : Int) (by omega) (by omega)
      have hil' : (i : Int) < (hs.length : Int) := by omega
      have hi0' : (0 : Int) ≤ (i : Int) := by omega
      obtain ⟨x, HX⟩ : ∃ x, Aside0 (x = rd_T73 hs i) := ⟨_, ⟨rfl⟩⟩
      rw [← HX.out] at h0 h1 h2 h3
      rw [show ((i : Int).toNat) = i from by omega] at h0 h1 h2 h3
      have l0 := World.block_lt_of_cell? W2 _ h0
      have k0 : ∀ o, (W2.alloc o).cell? (ad.add (i * 4)) = some (.int .i64 x.f0.f0) := fun o => (World.cell?_alloc_lt _ _ _ l0).trans h0
      have k1 : ∀ o, (W2.alloc o).cell? ⟨(ad.add (i * 4)).block, (ad.add (i * 4)).off + 1, none⟩ = some (.int .i64 x.f0.f1) := fun o => (World.cell?_alloc_lt W2 o ⟨(ad.add (i * 4)).block, (ad.add (i * 4)).off + 1, none⟩ l0).trans h1
      have k2 : ∀ o, (W2.alloc o).cell? ⟨(ad.add (i * 4)).block, (ad.add (i * 4)).off + 2, none⟩ = some (.bool x.f1) := fun o => (World.cell?_alloc_lt W2 o ⟨(ad.add (i * 4)).block, (ad.add (i * 4)).off + 2, none⟩ l0).trans h2
      have k3 : ∀ o, (W2.alloc o).cell? ⟨(ad.add (i * 4)).block, (ad.add (i * 4)).off + 3, none⟩ = some (.int .i64 x.f2) := fun o => (World.cell?_alloc_lt W2 o ⟨(ad.add (i * 4)).block, (ad.add (i * 4)).off + 3, none⟩ l0).trans h3
      have hg2 : g < W2.heap.size := by omega
      clear l0
      go_wp2_with fail
      go_region
      go_wp2_with fail
      have hb2 : Below W2.heap.size W2 (W2.alloc (.cells #[.int .i64 x.f0.f0, .int .i64 x.f0.f1, .bool x.f1, .int .i64 x.f2] 73)).drew := below_drew ((Below.refl _ _).alloc (Nat.le_refl _) _)
      have HG3 := Aside0.mk (HG2.out.trans (grown_of_below hb2 (some b)))
      have HW3 := Aside0.mk (HW2.out.below hb2)
      have HM3 := Aside0.mk (HM2.out.kept (grown_of_below hb2 none) (by simp))
      have s03 := pw_cell_below hb2 s02
      have s13 := pw_cell_below hb2 s12
      have x0 : (W2.alloc (.cells #[.int .i64 x.f0.f0, .int .i64 x.f0.f1, .bool x.f1, .int .i64 x.f2] 73)).drew.cell? ⟨W2.heap.size, 0, none⟩ = some (.int .i64 x.f0.f0) := by simp
      have x1 : (W2.alloc (.cells #[.int .i64 x.f0.f0, .int .i64 x.f0.f1, .bool x.f1, .int .i64 x.f2] 73)).drew.cell? ⟨W2.heap.size, 1, none⟩ = some (.int .i64 x.f0.f1) := by simp
      have x2 : (W2.alloc (.cells #[.int .i64 x.f0.f0, .int .i64 x.f0.f1, .bool x.f1, .int .i64 x.f2] 73)).drew.cell? ⟨W2.heap.size, 2, none⟩ = some (.bool x.f1) := by simp
      have x3 : (W2.alloc (.cells #[.int .i64 x.f0.f0, .int .i64 x.f0.f1, .bool x.f1, .int .i64 x.f2] 73)).drew.cell? ⟨W2.heap.size, 3, none⟩ = some (.int .i64 x.f2) := by simp
      have hx3 : W2.heap.size < (W2.alloc (.cells #[.int .i64 x.f0.f0, .int .i64 x.f0.f1, .bool x.f1, .int .i64 x.f2] 73)).drew.heap.size := by simp
      have hbx : b < W2.heap.size := Nat.lt_of_lt_of_le HM2.out.lt (Nat.le_refl _)
      clear hb2 hc1 s02 s12 h0 h1 h2 h3 k0 k1 k2 k3 hg2 HW2 HM2 HG2
      generalize (W2.alloc (.cells #[.int .i64 x.f0.f0, .int .i64 x.f0.f1, .bool x.f1, .int .i64 x.f2] 73)).drew = W3 at *
      generalize W2.heap.size = xb at *
      have hvx := (vH_iff x).1 (HV.out x (by rw [HX.out, rd_T73_eq, List.getD_eq_getElem?_getD, List.getElem?_eq_getElem (by omega), Option.getD_some]; exact List.getElem_mem _))
      obtain ⟨p0, p1, p2, _, _⟩ := hvx
      have hmi : mi x.f0.f1 left ≤ 200 ∧ -100000 ≤ mi x.f0.f1 left := by unfold mi; split <;> omega
      obtain ⟨hmi, hmi'⟩ := hmi
      obtain ⟨T, hT⟩ : ∃ T, Aside0 (T = mi x.f0.f1 left - x.f0.f0 + 1) := ⟨_, ⟨rfl⟩⟩
      have ew1 : IntKind.i64.wrap (mi x.f0.f1 left - x.f0.f0) = T - 1 := by rw [wrap_in (by omega) (by omega), hT.out]; omega
      have ew2 : IntKind.i64.wrap (T - 1 + 1) = T := by rw [wrap_in (by have := hT.out; omega) (by have := hT.out; omega)]; omega
      have hT1 : -1000000 ≤ T ∧ T ≤ 201 := by have := hT.out; omega
      obtain ⟨hT1, hT2⟩ := hT1
      go_region_held3 (fun w' => w'.cell? ⟨xb, 0, none⟩ = some (.int .i64 x.f0.f0) ∧ w'.cell? ⟨xb, 1, none⟩ = some (.int .i64 x.f0.f1) ∧ w'.cell? ⟨sb, 1, none⟩ = some (.int .i64 left)) (go_keep)
        (first | (go_at_call 89; refine (min2 _ x.f0.f1 left _ ?q1 ?q2).mono ?_; (case q1 => simp); (case q2 => simp); rintro e w' ⟨rfl, rfl⟩))
      clear ew1 ew2
      go_wp2_with fail
      have hb3 : Below W3.heap.size W3 (W3.alloc (.cells #[.int .i64 x.f0.f1, .int .i64 left] 3)).drew := below_drew ((Below.refl _ _).alloc (Nat.le_refl _) _)
      have HG4 := Aside0.mk (HG3.out.trans (grown_of_below hb3 (some b)))
      have HW4 := Aside0.mk (HW3.out.below hb3)
      have HM4 := Aside0.mk (HM3.out.kept (grown_of_below hb3 none) (by simp))
      have HC4 := Aside0.mk (show _ ∧ _ ∧ _ ∧ _ ∧ _ ∧ _ from ⟨pw_cell_below hb3 s03, pw_cell_below hb3 s13, pw_cell_below hb3 x0, pw_cell_below hb3 x1, pw_cell_below hb3 x2, pw_cell_below hb3 x3⟩)
      clear hb3 s03 s13 x0 x1 x2 x3 HW3 HM3 HG3 hx3
      generalize (W3.alloc (.cells #[.int .i64 x.f0.f1, .int .i64 left] 3)).drew = W4 at *
      go_loopw [5, 55] (fun v5 v55 wr => ∃ k : Nat, v55 = .int .i64 k ∧ ((k : Int) ≤ T ∨ k = 0) ∧ v5 = .int .i64 (lmin (fun k => lst up cs (hs.drop (i + 1)) (i + 1) (left - (x.f0.f0 + k))) (fun k => lk up x.f1 (ow cs i + (x.f0.f0 + k))) k) ∧
          Aside0 (W.grownBy wr (some b)) ∧ Aside0 (Wk w0 g b (some ad) c1 hs cs up wr) ∧ Aside0 (Memo wr b (n + k * cnt m) (fun i left => lst up cs (hs.drop i.toNat) i left)) ∧
          Aside0 (wr.cell? ⟨sb, 0, none⟩ = some (.int .i64 i) ∧ wr.cell? ⟨sb, 1, none⟩ = some (.int .i64 left) ∧ wr.cell? ⟨xb, 0, none⟩ = some (.int .i64 x.f0.f0) ∧ wr.cell? ⟨xb, 1, none⟩ = some (.int .i64 x.f0.f1) ∧ wr.cell? ⟨xb, 2, none⟩ = some (.bool x.f1) ∧ wr.cell? ⟨xb, 3, none⟩ = some (.int .i64 x.f2)))
        (fun _ v55 _ => 201 - (intOf v55).toNat)
      case atStart => exact ⟨0, rfl, .inr rfl, rfl, HG4, HW4, ⟨by simpa using HM4.out⟩, HC4⟩
      case round =>
        obtain ⟨k, rfl, hkT, rfl, HG, HWr, HMr, HC⟩ := hrel
        by_cases hlt2 : (k : Int) < T
        · obtain ⟨s0, s1, x0, x1, x2, x3⟩ := HC.out
          have hcm : n + k * cnt m + cnt m ≤ 1000000000000000 := by
            have h1 : (k + 1) * cnt m ≤ 201 * cnt m := Nat.mul_le_mul_right _ (by omega)
            have h2 : cnt (m + 1) = 201 * cnt m + 1 := rfl
            rw [Nat.add_mul] at h1
            omega
          have hle : x.f0.f0 + k ≤ left := by
            have h1 := hT.out
            have h2 : mi x.f0.f1 left ≤ left := by unfold mi; split <;> omega
            omega
          obtain ⟨l0, HL0⟩ : ∃ l0, Aside0 (l0 = lmin (fun k => lst up cs (hs.drop (i + 1)) (i + 1) (left - (x.f0.f0 + k))) (fun k => lk up x.f1 (ow cs i + (x.f0.f0 + k))) k) := ⟨_, ⟨rfl⟩⟩
          rw [← HL0.out]
          go_wp2_with fail
          refine (IH.out (i + 1) _ _ (n + k * cnt m) _ (by omega) (by have := HIM.out; omega) (by omega) (by omega) hcm HWr.out HMr.out).mono ?_
          rintro e w5 ⟨rfl, hm5, hg5⟩
          have HG5 := Aside0.mk (HG.out.trans hg5)
          have HW5 := Aside0.mk (HWr.out.grown hg5)
          have HM5 := Aside0.mk hm5
          have y0 := grown_cell hg5 s0 (by intro e; injection e with e; have := HSB.out.2; simp at e; omega)
          have y1 := grown_cell hg5 s1 (by intro e; injection e with e; have := HSB.out.2; simp at e; omega)
          have z0 := grown_cell hg5 x0 (by intro e; injection e with e; simp at e; omega)
          have z1 := grown_cell hg5 x1 (by intro e; injection e with e; simp at e; omega)
          have z2 := grown_cell hg5 x2 (by intro e; injection e with e; simp at e; omega)
          have z3 := grown_cell hg5 x3 (by intro e; injection e with e; simp at e; omega)
          clear hm5 hg5 s0 s1 x0 x1 x2 x3 HC HMr HWr HG hcm
          have hrb := lst_bound up cs (hs.drop (i + 1)) (i + 1) (left - (x.f0.f0 + k)) (fun h hh => HV.out h (List.mem_of_mem_drop hh)) HOK.out
          have hdl : (hs.drop (i + 1)).length ≤ 6 := by rw [List.length_drop]; omega
          obtain ⟨r, HR⟩ : ∃ r, Aside0 (r = lst up cs (hs.drop (i + 1)) (i + 1) (left - (x.f0.f0 + k))) := ⟨_, ⟨rfl⟩⟩
          rw [← HR.out] at hrb ⊢
          have hr1 : -12000 ≤ r := by omega
          have hr2 : r ≤ 1048576 := hrb.2
          clear hrb hdl
          by_cases hre : r = 1048576
          · have hrb : (r != 1048576) = false := bne_eq_false_iff_eq.mpr hre
            have HRE := Aside0.mk hre
            clear hre
            go_wp2_with fail
            go_roundw
            case rel =>
              refine ⟨k + 1, by go_num, by omega, ?_, HG5, HW5, ⟨?_⟩, ⟨y0, y1, z0, z1, z2, z3⟩⟩
              · have : lmin (fun k => lst up cs (hs.drop (i + 1)) (i + 1) (left - (x.f0.f0 + k))) (fun k => lk up x.f1 (ow cs i + (x.f0.f0 + k))) (k + 1) = l0 := by
                  rw [lmin, if_pos (by rw [← HR.out, HRE.out]; rfl), HL0.out]
                rw [this]
              · rw [Nat.add_mul, Nat.one_mul, ← Nat.add_assoc]; exact HM5.out
            case measure => simp [intOf]; omega
          · have hrb : (r != 1048576) = true := bne_iff_ne.mpr hre
            have HRE := Aside0.mk hre
            clear hre
            have hob := ow_bound cs i (fun c hc => by have := HOK.out.2 c hc; omega)
            have hol := HOK.out.1
            obtain ⟨q, HQ⟩ : ∃ q, Aside0 (q = ow cs i + (x.f0.f0 + k)) := ⟨_, ⟨rfl⟩⟩
            have hq : -2000 ≤ q ∧ q ≤ 2000 := by rw [HQ.out]; omega
            have hlb := lk_bound up x.f1 q 2000 hq.1 hq.2
            have LF := Aside0.mk (lack_f up x.f0.f0 x.f0.f1 x.f1 x.f2 q (by omega) (by omega))
            obtain ⟨u, HU⟩ : ∃ u, Aside0 (u = lk up x.f1 q) := ⟨_, ⟨rfl⟩⟩
            rw [← HU.out] at hlb LF
            have ew3 : IntKind.i64.wrap (ow cs i + (x.f0.f0 + k)) = q := by rw [← HQ.out]; exact wrap_in (by omega) (by omega)
            have ew4 : IntKind.i64.wrap (r + u) = r + u := wrap_in (by omega) (by omega)
            clear hob hol hq hlb
            have kF := HW5.out.cF
            have kO := HW5.out.cO i (by omega)
            have HFIN : ∀ W', Below w5.heap.size w5 W' → mi l0 (r + u) = lmin (fun k => lst up cs (hs.drop (i + 1)) (i + 1) (left - (x.f0.f0 + k))) (fun k => lk up x.f1 (ow cs i + (x.f0.f0 + k))) (k + 1) ∧ W.grownBy W' (some b) ∧ Wk w0 g b (some ad) c1 hs cs up W' ∧ Memo W' b (n + (k + 1) * cnt m) (fun i left => lst up cs (hs.drop i.toNat) i left) ∧
                (W'.cell? ⟨sb, 0, none⟩ = some (.int .i64 i) ∧ W'.cell? ⟨sb, 1, none⟩ = some (.int .i64 left) ∧ W'.cell? ⟨xb, 0, none⟩ = some (.int .i64 x.f0.f0) ∧ W'.cell? ⟨xb, 1, none⟩ = some (.int .i64 x.f0.f1) ∧ W'.cell? ⟨xb, 2, none⟩ = some (.bool x.f1) ∧ W'.cell? ⟨xb, 3, none⟩ = some (.int .i64 x.f2)) := by
              intro W' hbw
              refine ⟨?_, HG5.out.trans (grown_of_below hbw _), HW5.out.below hbw, ?_, pw_cell_below hbw y0, pw_cell_below hbw y1, pw_cell_below hbw z0, pw_cell_below hbw z1, pw_cell_below hbw z2, pw_cell_below hbw z3⟩
              · rw [lmin, if_neg (by rw [← HR.out]; exact HRE.out), ← HL0.out, ← HR.out, ← HQ.out, ← HU.out]
              · rw [Nat.add_mul, Nat.one_mul, ← Nat.add_assoc]
                exact HM5.out.kept (grown_of_below hbw none) (by simp)
            replace HFIN := Aside0.mk HFIN
            have hi6' : (i : Int) < 6 := by omega
            have HB5 := Aside0.mk (below_drew (Below.refl w5.heap.size w5))
            go_wp2_with fail
            cases up with
            | false =>
              simp only [Bool.false_eq_true, if_false] at LF kF
              go_region_held3 (fun w' => w'.cell? ⟨g, 9, none⟩ = some (.func (.func 77) #[] #[]) ∧ w'.cell? ⟨xb, 0, none⟩ = some (.int .i64 x.f0.f0) ∧ w'.cell? ⟨xb, 1, none⟩ = some (.int .i64 x.f0.f1) ∧ w'.cell? ⟨xb, 2, none⟩ = some (.bool x.f1) ∧ w'.cell? ⟨xb, 3, none⟩ = some (.int .i64 x.f2) ∧ w'.cell? ⟨sb, 0, none⟩ = some (.int .i64 i) ∧ w'.cell? ⟨g, 3 + i, none⟩ = some (.int .i64 (ow cs i)))
                (first | go_keep | exact ⟨pw_cell_below hb6 kF, pw_cell_below hb6 z0, pw_cell_below hb6 z1, pw_cell_below hb6 z2, pw_cell_below hb6 z3, pw_cell_below hb6 y0, pw_cell_below hb6 kO⟩)
                (first
                  | (go_at_call 77; refine (corner_House_short.calls _ _ _ _ _ _ _ LF.out).mono ?_; rintro e w6 ⟨rfl, hb6⟩; have HB6 := Aside0.mk (HB5.out.trans (hb6.mono (by simp))); replace hb6 := HB6.out)
                  | (go_at_call 89; refine (min2 _ l0 (r + u) _ ?q1 ?q2).mono ?_; (case q1 => simp); (case q2 => simp); rintro e w' ⟨rfl, rfl⟩))
              go_wp2_with fail
              obtain ⟨F1, F2, F3, F4, F5⟩ := HFIN.out _ (HB6.out.alloc HB6.out.size _)
              go_roundw
              case rel => exact ⟨k + 1, by go_num, by omega, by rw [F1], ⟨F2⟩, ⟨F3⟩, ⟨F4⟩, ⟨F5⟩⟩
              case measure => simp [intOf]; omega
            | true =>
              simp only [if_true] at LF kF
              go_region_held3 (fun w' => w'.cell? ⟨g, 9, none⟩ = some (.func (.func 78) #[] #[]) ∧ w'.cell? ⟨xb, 0, none⟩ = some (.int .i64 x.f0.f0) ∧ w'.cell? ⟨xb, 1, none⟩ = some (.int .i64 x.f0.f1) ∧ w'.cell? ⟨xb, 2, none⟩ = some (.bool x.f1) ∧ w'.cell? ⟨xb, 3, none⟩ = some (.int .i64 x.f2) ∧ w'.cell? ⟨sb, 0, none⟩ = some (.int .i64 i) ∧ w'.cell? ⟨g, 3 + i, none⟩ = some (.int .i64 (ow cs i)))
                (first | go_keep | exact ⟨pw_cell_below hb6 kF, pw_cell_below hb6 z0, pw_cell_below hb6 z1, pw_cell_below hb6 z2, pw_cell_below hb6 z3, pw_cell_below hb6 y0, pw_cell_below hb6 kO⟩)
                (first
                  | (go_at_call 78; refine (corner_House_surplus.calls _ _ _ _ _ _ _ LF.out).mono ?_; rintro e w6 ⟨rfl, hb6⟩; have HB6 := Aside0.mk (HB5.out.trans (hb6.mono (by simp))); replace hb6 := HB6.out)
                  | (go_at_call 89; refine (min2 _ l0 (r + u) _ ?q1 ?q2).mono ?_; (case q1 => simp); (case q2 => simp); rintro e w' ⟨rfl, rfl⟩))
              go_wp2_with fail
              obtain ⟨F1, F2, F3, F4, F5⟩ := HFIN.out _ (HB6.out.alloc HB6.out.size _)
              go_roundw
              case rel => exact ⟨k + 1, by go_num, by omega, by rw [F1], ⟨F2⟩, ⟨F3⟩, ⟨F4⟩, ⟨F5⟩⟩
              case measure => simp [intOf]; omega
        · have hres : lmin (fun k => lst up cs (hs.drop (i + 1)) (i + 1) (left - (x.f0.f0 + k))) (fun k => lk up x.f1 (ow cs i + (x.f0.f0 + k))) k = lst up cs (hs.drop i) i left := by
            have hd : hs.drop i = x :: hs.drop (i + 1) := by
              rw [List.drop_eq_getElem_cons hil, HX.out, rd_T73_eq, List.getD_eq_getElem?_getD, show (i : Int).toNat = i from by omega, List.getElem?_eq_getElem hil, Option.getD_some]
            rw [hd, lst, ← hT.out, show k = T.toNat from by omega]
          rw [hres]
          have hcm : n + k * cnt m + 1 ≤ n + cnt (m + 1) := by
            have h1 : k * cnt m ≤ 201 * cnt m := Nat.mul_le_mul_right _ (by omega)
            have h2 : cnt (m + 1) = 201 * cnt m + 1 := rfl
            omega
          have hlb := lst_bound up cs (hs.drop i) i left (fun h hh => HV.out h (List.mem_of_mem_drop hh)) HOK.out
          have hdl : (hs.drop i).length ≤ 6 := by rw [List.length_drop]; omega
          have hM8 : Memo wr.drew b (n + k * cnt m) (fun i left => lst up cs (hs.drop i.toNat) i left) := HMr.out.kept (grown_of_below (below_drew (Below.refl _ _)) none) (by simp)
          obtain ⟨W8, hrun, hm8, hg8⟩ := hM8.store (by unfold maxLen; omega) i left wi wl (WalkArith.wf_i64 (by
            show _ ≤ lst up cs (hs.drop (i : Int).toNat) i left ∧ lst up cs (hs.drop (i : Int).toNat) i left ≤ _
            rw [show (i : Int).toNat = i from by omega]
            unfold nev at hlb
            omega))
          simp only [Int.toNat_natCast] at hrun
          have HM8 := Aside0.mk (hm8.mono hcm)
          have HG8 := Aside0.mk (HG.out.trans ((grown_of_below (below_drew (Below.refl wr.heap.size wr)) (some b)).trans hg8))
          obtain ⟨s0, s1, x0, x1, x2, x3⟩ := HC.out
          have kM := HWr.out.cM
          clear hm8 hg8 hM8 hlb hdl hcm hres
          obtain ⟨res, HRES⟩ : ∃ res, Aside0 (res = lst up cs (hs.drop i) i left) := ⟨_, ⟨rfl⟩⟩
          rw [← HRES.out] at hrun ⊢
          go_wp2_with fail
          go_region
          go_wp2_with fail
          go_ret
          exact ⟨ret_i64 HRES.out, HM8.out, HG8.out⟩
end Go.Proofs.Ytgjifkegfbpjkaa.Q
end
