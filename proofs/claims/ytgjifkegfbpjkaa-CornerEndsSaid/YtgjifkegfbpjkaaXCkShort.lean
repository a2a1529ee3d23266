/- Walks: a market at work, and the bounds of the shortage, of package corner. -/
import Derived.Test.YtgjifkegfbpjkaaXCkLeast
section
namespace Go.Proofs.Ytgjifkegfbpjkaa.Q
set_option linter.unusedVariables false
open Go.RowKit Go.Maps Go.Proofs.YtgjifkegfbpjkaaW.PrintWords Go.Proofs.YtgjifkegfbpjkaaW.PrintLast Go.Proofs.YtgjifkegfbpjkaaW.PrintMore
def WorkPost (w : World) (ex : Int) (A1 : Option Addr) (c1 : Nat) (hs : List S73) (cs : List S75) (up : Bool) (e : Ending) (w' : World) : Prop :=
  ∃ g b, e = .returned (.pointer (some ⟨g, 0, none⟩)) ∧ Wk w g b A1 c1 hs cs up w' ∧ (∀ L, Memo w' b 0 L) ∧ w'.cell? ⟨g, 0, none⟩ = some (.int .i64 ex)
theorem wk_of_box {w W : World} (hb : Below w.heap.size w W) {b : Nat} (hb0 : w.heap.size ≤ b) (hbW : b < W.heap.size) (ex : Int) (A1 : Option Addr) (c1 : Nat) (hs : List S73) (sv : Value) (cs : List S75) (up : Bool) {fid : Nat} (hf : fid = if up = true then 78 else 77) :
    Wk w W.heap.size b A1 c1 hs cs up (W.alloc (.cells #[.int .i64 ex, .slice A1 hs.length c1, sv, .int .i64 (ow cs 0), .int .i64 (ow cs 1), .int .i64 (ow cs 2), .int .i64 (ow cs 3), .int .i64 (ow cs 4), .int .i64 (ow cs 5), .func (.func fid) #[] #[], .map (some b)] 157)) := by
  subst hf
  refine ⟨by simp, ?_, by simp, by simp, hb.alloc hb.size _, by simp, by omega, hb0⟩
  intro j hj
  match j, hj with
  | 0, _ => simp
  | 1, _ => simp
  | 2, _ => simp
  | 3, _ => simp
  | 4, _ => simp
  | 5, _ => simp
set_option maxHeartbeats 2000000 in
set_option maxRecDepth 100000 in
theorem work_calls (ex : Int) (A1 : Option Addr) (c1 : Nat) (hs : List S73) (A2 : Option Addr) (c2 : Nat) (cs : List S75) (up : Bool) (fid : Nat) (hf : fid = if up = true then 78 else 77) (w : World) (m2 : Kd.C k75 w A2 cs.length cs) (hok : okCs cs) :
    Calls Try.prog 79 #[.agg #[.int .i64 ex, .slice A1 hs.length c1, .slice A2 cs.length c2], .agg #[.func (.func fid) #[] #[]]] w (WorkPost w ex A1 c1 hs cs up) := by
  have hu35 := Try.underlying35
  have hu129 := Try.underlying129
  have hu142 := Try.underlying142
  have hu157 := Try.underlying157
  have M2 := Aside0.mk m2
  have HOK := Aside0.mk hok
  have hmm := @run_makeMap Try.prog
  have HF := Aside0.mk hf
  clear m2 hok hf
  go_enter Try.func79, Try.ntmps79
  go_wp2_with fail
  have hb0 : Below w.heap.size w ((w.alloc (.cells #[.int .i64 ex, .slice A1 hs.length c1, .slice A2 cs.length c2] 35)).alloc (.cells #[.func (.func fid) #[] #[]] 129)) := ((Below.refl _ _).alloc (Nat.le_refl _) _).alloc (by simp) _
  have x0 : ((w.alloc (.cells #[.int .i64 ex, .slice A1 hs.length c1, .slice A2 cs.length c2] 35)).alloc (.cells #[.func (.func fid) #[] #[]] 129)).cell? ⟨w.heap.size, 0, none⟩ = some (.int .i64 ex) := by simp
  have x1 : ((w.alloc (.cells #[.int .i64 ex, .slice A1 hs.length c1, .slice A2 cs.length c2] 35)).alloc (.cells #[.func (.func fid) #[] #[]] 129)).cell? ⟨w.heap.size, 1, none⟩ = some (.slice A1 hs.length c1) := by simp
  have x2 : ((w.alloc (.cells #[.int .i64 ex, .slice A1 hs.length c1, .slice A2 cs.length c2] 35)).alloc (.cells #[.func (.func fid) #[] #[]] 129)).cell? ⟨w.heap.size, 2, none⟩ = some (.slice A2 cs.length c2) := by simp
  have y0 : ((w.alloc (.cells #[.int .i64 ex, .slice A1 hs.length c1, .slice A2 cs.length c2] 35)).alloc (.cells #[.func (.func fid) #[] #[]] 129)).cell? ⟨w.heap.size + 1, 0, none⟩ = some (.func (.func fid) #[] #[]) := by simp
  have HB0 := Aside0.mk hb0
  clear hb0
  generalize ((w.alloc (.cells #[.int .i64 ex, .slice A1 hs.length c1, .slice A2 cs.length c2] 35)).alloc (.cells #[.func (.func fid) #[] #[]] 129)) = W at *
  obtain ⟨bx, HBX⟩ : ∃ bx, Aside0 (w.heap.size = bx) := ⟨_, ⟨rfl⟩⟩
  rw [HBX.out] at x0 x1 x2 y0
  rw [HBX.out]
  have HBD := Aside0.mk (below_drew (Below.refl W.heap.size W))
  go_region_held3 (fun w' => w'.cell? ⟨bx, 0, none⟩ = some (.int .i64 ex) ∧ w'.cell? ⟨bx, 1, none⟩ = some (.slice A1 hs.length c1) ∧ w'.cell? ⟨bx, 2, none⟩ = some (.slice A2 cs.length c2) ∧ w'.cell? ⟨bx + 1, 0, none⟩ = some (.func (.func fid) #[] #[]))
    (first | go_keep | exact ⟨pw_cell_below HB2.out x0, pw_cell_below HB2.out x1, pw_cell_below HB2.out x2, pw_cell_below HB2.out y0⟩)
    (first
      | (go_at_call 104; refine (owed_calls _ _ _ hs _ _ cs _ ?q1 HOK.out).mono ?_; (case q1 => first | exact Kd.C_below M2.out (HB0.out.trans (HBD.out.mono HB0.out.size)) | exact Kd.C_below M2.out (HB0.out.trans ((HBD.out.alloc HBD.out.size _).mono HB0.out.size))); rintro e w2 ⟨rfl, hb2⟩; first | (have HBM := Aside0.mk (show Below (W.alloc (.map #[] 0)).heap.size (W.alloc (.map #[] 0)).drew w2 from hb2); have HB2 := Aside0.mk ((show Below W.heap.size W (W.alloc (.map #[] 0)).drew from below_drew ((Below.refl _ _).alloc (Nat.le_refl _) _)).trans (hb2.mono (by simp)))) | have HB2 := Aside0.mk (HBD.out.trans (hb2.mono HBD.out.size)); clear hb2))
  · go_wp2_with fail
    go_ret
    have hbB := HB0.out.trans (HB2.out.mono HB0.out.size)
    have hk := wk_of_box (W := w2.alloc (.map #[] 0)) (hbB.alloc hbB.size _) (b := w2.heap.size) hbB.size (by simp) ex A1 c1 hs (.slice A2 cs.length c2) cs up HF.out
    have hm : ∀ L, Memo ((w2.alloc (.map #[] 0)).alloc (.cells #[.int .i64 ex, .slice A1 hs.length c1, .slice A2 cs.length c2, .int .i64 (ow cs 0), .int .i64 (ow cs 1), .int .i64 (ow cs 2), .int .i64 (ow cs 3), .int .i64 (ow cs 4), .int .i64 (ow cs 5), .func (.func fid) #[] #[], .map (some w2.heap.size)] 157)) w2.heap.size 0 L :=
      fun L => (Memo.made w2 L).kept (World.grownBy_alloc _ _ none) (by simp)
    rw [World.size_alloc] at hk
    exact ⟨w2.heap.size + 1, w2.heap.size, rfl, hk, hm, by simp⟩
  · go_wp2_with fail
    go_ret
    have hbB := HB0.out.trans (HB2.out.mono HB0.out.size)
    have hlt : W.heap.size < w2.heap.size := by have := HBM.out.size; simp at this; omega
    have hk := wk_of_box (W := w2) hbB (b := W.heap.size) HB0.out.size hlt ex A1 c1 hs (.slice A2 cs.length c2) cs up HF.out
    have hm : ∀ L, Memo (w2.alloc (.cells #[.int .i64 ex, .slice A1 hs.length c1, .slice A2 cs.length c2, .int .i64 (ow cs 0), .int .i64 (ow cs 1), .int .i64 (ow cs 2), .int .i64 (ow cs 3), .int .i64 (ow cs 4), .int .i64 (ow cs 5), .func (.func fid) #[] #[], .map (some W.heap.size)] 157)) W.heap.size 0 L :=
      fun L => (((Memo.made W L).kept (grown_of_below (below_drew (Below.refl _ _)) none) (by simp)).kept (grown_of_below HBM.out none) (by simp)).kept (World.grownBy_alloc _ _ none) (by simp)
    exact ⟨w2.heap.size, W.heap.size, rfl, hk, hm, by simp⟩
def shortR (ex : Int) (hs : List S73) (cs : List S75) : Int × Int × Bool :=
  if lst false cs hs 0 ex = nev then (0, 0, false) else (lst false cs hs 0 ex, -(lst true cs hs 0 ex), true)
theorem cnt6 : cnt 6 ≤ 1000000000000000 := by decide
theorem cnt_le : ∀ n, n ≤ 6 → cnt n ≤ 1000000000000000
  | 0, _ => by decide
  | 1, _ => by decide
  | 2, _ => by decide
  | 3, _ => by decide
  | 4, _ => by decide
  | 5, _ => by decide
  | 6, _ => by decide
  | n + 7, h => by omega
theorem res111 {W : World} {g : Nat} {p0 p1 : Int} {ok : Bool} (h0 : W.cell? ⟨g, 0, none⟩ = some (.int .i64 p0)) (h1 : W.cell? ⟨g, 1, none⟩ = some (.int .i64 p1)) (t : Array Value) (ht : t[2]? = some (.pointer (some ⟨g, 0, none⟩))) (h3 : t[3]? = some (.bool ok)) :
    (results Try.f111 t).run Try.prog W = .ok (.tuple #[.agg #[.int .i64 p0, .int .i64 p1], .bool ok]) W := by
  simp [results, Try.results111, go_sem, ht, h0, h1, h3]
theorem fz_below {w w1 : World} (h : Below w.heap.size w w1) {a : Addr} {x : Bool} (hf : w.frozen? a = x) (hl : a.block < w.heap.size) : w1.frozen? a = x := by
  rw [← hf]
  simp [World.frozen?, h.block _ hl]
set_option maxHeartbeats 2000000 in
set_option maxRecDepth 100000 in
theorem shortage_calls (ex : Int) (A1 : Option Addr) (c1 : Nat) (hs : List S73) (A2 : Option Addr) (c2 : Nat) (cs : List S75) (w : World) (m1 : Kd.C k73 w A1 hs.length hs) (m2 : Kd.C k75 w A2 cs.length cs) (hok : okCs cs) (hv : ∀ h ∈ hs, vH h = true) (hn : hs.length ≤ 6) (he : 1 ≤ ex ∧ ex ≤ 200) :
    Calls Try.prog 111 #[.agg #[.int .i64 ex, .slice A1 hs.length c1, .slice A2 cs.length c2]] w fun e w' => e = .returned (.tuple #[.agg #[.int .i64 (shortR ex hs cs).1, .int .i64 (shortR ex hs cs).2.1], .bool (shortR ex hs cs).2.2]) ∧ Below w.heap.size w w' := by
  have hu35 := Try.underlying35
  have hu46 := Try.underlying46
  have hu129 := Try.underlying129
  have hu160 := Try.underlying160
  have M1 := Aside0.mk m1
  have M2 := Aside0.mk m2
  have HOK := Aside0.mk hok
  have HV := Aside0.mk hv
  have HE := Aside0.mk he
  clear m1 m2 hok hv he
  have HLB := Aside0.mk (lst_bound true cs hs 0 ex HV.out HOK.out)
  obtain ⟨lo, HLO⟩ : ∃ lo, Aside0 (lo = lst false cs hs 0 ex) := ⟨_, ⟨rfl⟩⟩
  obtain ⟨hi, HHI⟩ : ∃ hi, Aside0 (hi = lst true cs hs 0 ex) := ⟨_, ⟨rfl⟩⟩
  go_enter Try.func111, Try.ntmps111
  go_wp2_with fail
  have hb0 : Below w.heap.size w ((w.alloc (.cells #[.int .i64 ex, .slice A1 hs.length c1, .slice A2 cs.length c2] 35)).alloc (.cells #[.int .i64 0, .int .i64 0] 46)) := ((Below.refl _ _).alloc (Nat.le_refl _) _).alloc (by simp) _
  have x0 : ((w.alloc (.cells #[.int .i64 ex, .slice A1 hs.length c1, .slice A2 cs.length c2] 35)).alloc (.cells #[.int .i64 0, .int .i64 0] 46)).cell? ⟨w.heap.size, 0, none⟩ = some (.int .i64 ex) := by simp
  have x1 : ((w.alloc (.cells #[.int .i64 ex, .slice A1 hs.length c1, .slice A2 cs.length c2] 35)).alloc (.cells #[.int .i64 0, .int .i64 0] 46)).cell? ⟨w.heap.size, 1, none⟩ = some (.slice A1 hs.length c1) := by simp
  have x2 : ((w.alloc (.cells #[.int .i64 ex, .slice A1 hs.length c1, .slice A2 cs.length c2] 35)).alloc (.cells #[.int .i64 0, .int .i64 0] 46)).cell? ⟨w.heap.size, 2, none⟩ = some (.slice A2 cs.length c2) := by simp
  have y0 : ((w.alloc (.cells #[.int .i64 ex, .slice A1 hs.length c1, .slice A2 cs.length c2] 35)).alloc (.cells #[.int .i64 0, .int .i64 0] 46)).cell? ⟨w.heap.size + 1, 0, none⟩ = some (.int .i64 0) := by simp
  have y1 : ((w.alloc (.cells #[.int .i64 ex, .slice A1 hs.length c1, .slice A2 cs.length c2] 35)).alloc (.cells #[.int .i64 0, .int .i64 0] 46)).cell? ⟨w.heap.size + 1, 1, none⟩ = some (.int .i64 0) := by simp
  have f0 : ((w.alloc (.cells #[.int .i64 ex, .slice A1 hs.length c1, .slice A2 cs.length c2] 35)).alloc (.cells #[.int .i64 0, .int .i64 0] 46)).frozen? ⟨w.heap.size + 1, 0, none⟩ = false := by simp
  have f1 : ((w.alloc (.cells #[.int .i64 ex, .slice A1 hs.length c1, .slice A2 cs.length c2] 35)).alloc (.cells #[.int .i64 0, .int .i64 0] 46)).frozen? ⟨w.heap.size + 1, 1, none⟩ = false := by simp
  have hsz : w.heap.size + 1 < ((w.alloc (.cells #[.int .i64 ex, .slice A1 hs.length c1, .slice A2 cs.length c2] 35)).alloc (.cells #[.int .i64 0, .int .i64 0] 46)).heap.size := by simp
  have HB0 := Aside0.mk hb0
  clear hb0
  generalize ((w.alloc (.cells #[.int .i64 ex, .slice A1 hs.length c1, .slice A2 cs.length c2] 35)).alloc (.cells #[.int .i64 0, .int .i64 0] 46)) = W at *
  obtain ⟨bx, HBX⟩ : ∃ bx, Aside0 (w.heap.size = bx) := ⟨_, ⟨rfl⟩⟩
  rw [HBX.out] at x0 x1 x2 y0 y1 f0 f1 hsz
  rw [HBX.out]
  have HBD := Aside0.mk (below_drew (Below.refl W.heap.size W))
  go_region_held3 (fun w' => w'.cell? ⟨bx, 0, none⟩ = some (.int .i64 ex) ∧ w'.cell? ⟨bx, 1, none⟩ = some (.slice A1 hs.length c1) ∧ w'.cell? ⟨bx, 2, none⟩ = some (.slice A2 cs.length c2))
    (first | go_keep | exact ⟨pw_cell_below HB2.out x0, pw_cell_below HB2.out x1, pw_cell_below HB2.out x2⟩ | exact ⟨pw_cell_below HB3.out x0, pw_cell_below HB3.out x1, pw_cell_below HB3.out x2⟩)
    (first
      | (go_at_call 79; refine (work_calls ex A1 c1 hs A2 c2 cs false 77 rfl _ (Kd.C_below M2.out (HB0.out.trans (HBD.out.mono HB0.out.size))) HOK.out).mono ?_; rintro e w2 ⟨g, b, rfl, hk, hm, hx⟩; have HB2 := Aside0.mk (HBD.out.trans (hk.bel.mono HBD.out.size)); have HK := Aside0.mk hk; have HM := Aside0.mk (hm (fun i left => lst false cs (hs.drop i.toNat) i left)); clear hk hm hx)
      | (go_at_call 112; refine (least_calls _ g b A1 c1 hs cs false (Kd.C_below M1.out (HB0.out.trans (HBD.out.mono HB0.out.size))) HV.out hn HOK.out hs.length 0 0 ex 0 _ rfl (Nat.zero_add _) (by have := HE.out; omega) HE.out.2 (by rw [Nat.zero_add]; exact cnt_le _ hn) HK.out HM.out).mono ?_; rw [List.drop_zero, ← HLO.out]; rintro e w3 ⟨rfl, hm3, hg3⟩; have HB3 := Aside0.mk (HB2.out.grown hg3 HB2.out.size (fun k hk => by injection hk with hk; have h1 := HK.out.b0; have h2 := HBD.out.size; omega)); clear hm3 hg3))
  have HBW := Aside0.mk (HB0.out.trans (HB3.out.mono HB0.out.size))
  have z0 := pw_cell_below HB3.out x0
  have z1 := pw_cell_below HB3.out x1
  have z2 := pw_cell_below HB3.out x2
  have v0 := pw_cell_below HB3.out y0
  have v1 := pw_cell_below HB3.out y1
  have g0 := fz_below HB3.out f0 (by show bx + 1 < W.heap.size; omega)
  have g1 := fz_below HB3.out f1 (by show bx + 1 < W.heap.size; omega)
  have hsz3 := Nat.lt_of_lt_of_le hsz HB3.out.size
  clear x0 x1 x2 y0 y1 f0 f1 hsz
  have hwb : ∀ W', Below w.heap.size w W' → ∀ p0 p1, Below w.heap.size w ((W'.setCell ⟨bx + 1, 0, none⟩ (.int .i64 p0)).setCell ⟨bx + 1, 1, none⟩ (.int .i64 p1)) := fun W' h p0 p1 => (h.setCell (p := ⟨bx + 1, 0, none⟩) (by have := HBX.out; simp; omega) _).setCell (p := ⟨bx + 1, 1, none⟩) (by have := HBX.out; simp; omega) _
  have HWB := Aside0.mk hwb
  clear hwb
  by_cases hlo : lo = 1048576
  · have hlb : (lo == 1048576) = true := beq_iff_eq.mpr hlo
    have HR : Aside0 (shortR ex hs cs = (0, 0, false)) := ⟨by unfold shortR; rw [if_pos (by rw [← HLO.out, hlo]; rfl)]⟩
    clear hlo
    go_wp2_with fail
    rw [HR.out]
    have c0 := setCell_id v0
    have c1 := (c0 _).trans v1
    have k0 : ((w3.setCell ⟨bx + 1, 0, none⟩ (.int .i64 0)).setCell ⟨bx + 1, 1, none⟩ (.int .i64 0)).cell? ⟨bx + 1, 0, none⟩ = some (.int .i64 0) := (setCell_id c1 _).trans ((c0 _).trans v0)
    have k1 : ((w3.setCell ⟨bx + 1, 0, none⟩ (.int .i64 0)).setCell ⟨bx + 1, 1, none⟩ (.int .i64 0)).cell? ⟨bx + 1, 1, none⟩ = some (.int .i64 0) := (setCell_id c1 _).trans c1
    exact bodyPost_ret (res111 k0 k1 _ rfl rfl) rfl ⟨rfl, HWB.out _ HBW.out 0 0⟩
  · have hlb : (lo == 1048576) = false := beq_eq_false_iff_ne.mpr hlo
    have HR : Aside0 (shortR ex hs cs = (lo, -hi, true)) := ⟨by unfold shortR; rw [if_neg (by rw [← HLO.out]; exact hlo), ← HLO.out, ← HHI.out]⟩
    clear hlo
    go_wp2_with fail
    have hhb : -20000 ≤ hi ∧ hi ≤ 1048576 := by have := HLB.out; rw [← HHI.out] at this; unfold nev at this; omega
    have ewh : IntKind.i64.wrap (-hi) = -hi := wrap_in (by omega) (by omega)
    clear hhb
    have HBE := Aside0.mk (below_drew (Below.refl w3.heap.size w3))
    go_region_held3 (fun w' => w'.cell? ⟨bx, 0, none⟩ = some (.int .i64 ex) ∧ w'.cell? ⟨bx, 1, none⟩ = some (.slice A1 hs.length c1) ∧ w'.cell? ⟨bx, 2, none⟩ = some (.slice A2 cs.length c2))
      (first | go_keep | exact ⟨pw_cell_below HB4.out z0, pw_cell_below HB4.out z1, pw_cell_below HB4.out z2⟩ | exact ⟨pw_cell_below HB5.out z0, pw_cell_below HB5.out z1, pw_cell_below HB5.out z2⟩ | (simp [World.cell?_setCell_far]; exact ⟨pw_cell_below HB5.out z0, pw_cell_below HB5.out z1, pw_cell_below HB5.out z2⟩))
      (first
        | (go_at_call 79; refine (work_calls ex A1 c1 hs A2 c2 cs true 78 rfl _ (Kd.C_below M2.out (HBW.out.trans (HBE.out.mono HBW.out.size))) HOK.out).mono ?_; rintro e w4 ⟨g', b', rfl, hk, hm, hx⟩; have HB4 := Aside0.mk (HBE.out.trans (hk.bel.mono HBE.out.size)); have HK4 := Aside0.mk hk; have HM4 := Aside0.mk (hm (fun i left => lst true cs (hs.drop i.toNat) i left)); clear hk hm hx)
        | (go_at_call 112; refine (least_calls _ g' b' A1 c1 hs cs true (Kd.C_below M1.out (HBW.out.trans (HBE.out.mono HBW.out.size))) HV.out hn HOK.out hs.length 0 0 ex 0 _ rfl (Nat.zero_add _) (by have := HE.out; omega) HE.out.2 (by rw [Nat.zero_add]; exact cnt_le _ hn) HK4.out HM4.out).mono ?_; rw [List.drop_zero, ← HHI.out]; rintro e w5 ⟨rfl, hm3, hg3⟩; have HB5 := Aside0.mk (HB4.out.grown hg3 HB4.out.size (fun k hk => by injection hk with hk; have h1 := HK4.out.b0; have h2 := HBE.out.size; omega)); have v05 := pw_cell_below HB5.out v0; have v15 := pw_cell_below HB5.out v1; have g05 := fz_below HB5.out g0 (by show bx + 1 < w3.heap.size; omega); have g15 := fz_below HB5.out g1 (by show bx + 1 < w3.heap.size; omega); clear hm3 hg3))
    go_wp2_with fail
    rw [HR.out]
    have k0 : ((w5.setCell ⟨bx + 1, 0, none⟩ (.int .i64 lo)).setCell ⟨bx + 1, 1, none⟩ (.int .i64 (-hi))).cell? ⟨bx + 1, 0, none⟩ = some (.int .i64 lo) := by
      rw [World.cell?_setCell_other _ _ _ _ (by simp), World.cell?_setCell_same' _ _ _ (by rw [v05]; rfl)]
    have k1 : ((w5.setCell ⟨bx + 1, 0, none⟩ (.int .i64 lo)).setCell ⟨bx + 1, 1, none⟩ (.int .i64 (-hi))).cell? ⟨bx + 1, 1, none⟩ = some (.int .i64 (-hi)) := by
      rw [World.cell?_setCell_same' _ _ _ (by rw [World.cell?_setCell_other _ _ _ _ (by simp), v15]; rfl)]
    exact bodyPost_ret (res111 k0 k1 _ rfl rfl) rfl ⟨rfl, HWB.out _ (HBW.out.trans (HB5.out.mono HBW.out.size)) lo (-hi)⟩
def corner_Market_shortage.f (a0_0 : Int) (l0_1 : List (S73)) (l0_2 : List (S75)) : Option (Int × Int × Bool) := if ck a0_0 l0_1 l0_2 = 0 then some (shortR a0_0 l0_1 l0_2) else none
theorem corner_Market_shortage.calls (a0_0 : Int) (A0_1 : Option Addr) (c0_1 : Nat) (l0_1 : List (S73)) (A0_2 : Option Addr) (c0_2 : Nat) (l0_2 : List (S75)) (r1 : Int) (r2 : Int) (r3 : Bool) (w : World) (hr0_1 : Kd.C k73 w A0_1 l0_1.length l0_1) (hc0_1 : l0_1.length ≤ c0_1) (hr0_2 : Kd.C k75 w A0_2 l0_2.length l0_2) (hc0_2 : l0_2.length ≤ c0_2) (h : corner_Market_shortage.f a0_0 l0_1 l0_2 = some (r1, r2, r3)) :
    Calls Try.prog 111 #[.agg #[.int .i64 a0_0, .slice A0_1 l0_1.length c0_1, .slice A0_2 l0_2.length c0_2]] w fun e w' => e = .returned (.tuple #[.agg #[.int .i64 r1, .int .i64 r2], .bool r3]) ∧ Below w.heap.size w w' := by
  unfold corner_Market_shortage.f at h
  split at h
  · rename_i h1
    injection h with h
    have hz := ck_zero h1
    have hc := shortage_calls a0_0 A0_1 c0_1 l0_1 A0_2 c0_2 l0_2 w hr0_1 hr0_2 (ck_okCs h1) hz.2.2.2.2.2.1 hz.2.1 ⟨hz.2.2.2.1, hz.2.2.2.2.1⟩
    rw [h] at hc
    exact hc
  · cases h
end Go.Proofs.Ytgjifkegfbpjkaa.Q
end
