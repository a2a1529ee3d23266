/- Walks: slices.SortStableFunc at whole numbers, at most twelve of them; cmp.Compare at whole numbers. -/
import Derived.Test.YtgjifkegfbpjkaaXMemo
import Derived.Shelf.SlSortCmp.Insertion1
section
namespace Go.Proofs.Ytgjifkegfbpjkaa
set_option linter.unusedVariables false
open Go.Shelf Go.RowKit Go.Sort
open Go.Proofs.YtgjifkegfbpjkaaW.PrintWords (Aside0)
def sortRen : Go.Shelf.Ren := ⟨fun | 20 => 138 | n => n, fun | 22 => 26 | 24 => 3 | 25 => 163 | n => n, fun n => n⟩
theorem sortLays : SlLaysF.n20 Try.prog sortRen := {
  mixed := by kernel_rfl
  f20 := ⟨Try.f138.name, by decide, by kernel_rfl⟩
  t0 := by kernel_rfl
  a0 := fun _ => by kernel_rfl
  z0 := fun _ => by kernel_rfl
  v0 := fun _ => by kernel_rfl
  t3 := by kernel_rfl
  a3 := fun _ => by kernel_rfl
  z3 := fun _ => by kernel_rfl
  v3 := fun _ => by kernel_rfl
  t4 := by kernel_rfl
  a4 := fun _ => by kernel_rfl
  z4 := fun _ => by kernel_rfl
  v4 := fun _ => by kernel_rfl
  t22 := by kernel_rfl
  a22 := fun _ => by kernel_rfl
  z22 := fun _ => by kernel_rfl
  v22 := fun _ => by kernel_rfl
  t25 := by kernel_rfl
  a25 := fun _ => by kernel_rfl
  z25 := fun _ => by kernel_rfl
  v25 := fun _ => by kernel_rfl
  a24 := fun _ => by kernel_rfl
  z24 := fun _ => by kernel_rfl }
section
variable {α : Type} [Inhabited α]
set_option maxHeartbeats 1000000 in
set_option maxRecDepth 100000 in
theorem insSort (enc : α → Value) (cf : α → α → Int) (g : Nat) (cb : Array Value) (blk off cap a b : Nat) (d0 d : Array α) (w0 w : World)
    (eg : ∀ args w, (callFunc g args).run Try.prog w = .ok (.enter g args) w) (hcmp : CmpLays1 Try.prog g cb enc cf blk off d0.size w0) (R : Row1 enc w0 blk off d0) (hs : d0.size = d.size) (S : SW enc w0 blk off d w) (hab : a ≤ b) (hb : b ≤ d.size) (hsz : d.size < 4611686018427387904) :
    Calls Try.prog 138 #[.slice (some ⟨blk, off, none⟩) d.size cap, .int .i64 a, .int .i64 b, .func (.func g) #[] cb] w fun e w' => e = .returned (.tuple #[]) ∧ SW enc w0 blk off (Sort.insertionSort (ltOf cf) d a b) w' :=
  Any.insertionSortCmpFunc_s sortLays enc cf g cb blk off cap a b d0 d w0 w eg hcmp R hs S hab hb hsz
set_option maxHeartbeats 400000 in
set_option maxRecDepth 100000 in
theorem stableSort (enc : α → Value) (cf : α → α → Int) (g : Nat) (cb : Array Value) (blk off cap : Nat) (d : Array α) (w : World)
    (eg : ∀ args w, (callFunc g args).run Try.prog w = .ok (.enter g args) w) (hcmp : CmpLays1 Try.prog g cb enc cf blk off d.size w) (R : Row1 enc w blk off d) (h12 : d.size ≤ 12) :
    Calls Try.prog 127 #[.slice (some ⟨blk, off, none⟩) d.size cap, .int .i64 d.size, .func (.func g) #[] cb] w fun e w' => e = .returned (.tuple #[]) ∧ SW enc w blk off (Sort.insertionSort (ltOf cf) d 0 d.size) w' := by
  have hcon := insSort enc cf g cb blk off cap 0 d.size d d w w eg hcmp R rfl (SW.start R.hH) (Nat.zero_le _) (Nat.le_refl _) (by omega)
  generalize Sort.insertionSort (ltOf cf) d 0 d.size = r at hcon ⊢
  obtain ⟨n, hn⟩ : ∃ n, d.size = n := ⟨_, rfl⟩
  rw [hn] at h12 hcon ⊢
  clear hn hcmp
  have HC := Aside0.mk hcon
  clear hcon
  go_enter Try.func127, Try.ntmps127
  go_wp2_with fail
  refine wp_loop_rounds 2 ?_
  rw [rounds_succ]
  go_wp2_with fail
  refine HC.out.mono ?_
  rintro e w' ⟨rfl, hS⟩
  go_wp2_with fail
  refine wp_loop_rounds 2 ?_
  rw [rounds_succ]
  go_wp2_with fail
  go_end0
  exact ⟨rfl, hS⟩
set_option maxHeartbeats 400000 in
set_option maxRecDepth 100000 in
theorem sortStable (enc : α → Value) (cf : α → α → Int) (g : Nat) (cb : Array Value) (blk off cap : Nat) (d : Array α) (w : World)
    (eg : ∀ args w, (callFunc g args).run Try.prog w = .ok (.enter g args) w) (hcmp : CmpLays1 Try.prog g cb enc cf blk off d.size w) (R : Row1 enc w blk off d) (h12 : d.size ≤ 12) :
    Calls Try.prog 115 #[.slice (some ⟨blk, off, none⟩) d.size cap, .func (.func g) #[] cb] w fun e w' => e = .returned (.tuple #[]) ∧ SW enc w blk off (Sort.insertionSort (ltOf cf) d 0 d.size) w' := by
  have hcon := stableSort enc cf g cb blk off cap d w eg hcmp R h12
  generalize Sort.insertionSort (ltOf cf) d 0 d.size = r at hcon ⊢
  obtain ⟨n, hn⟩ : ∃ n, d.size = n := ⟨_, rfl⟩
  rw [hn] at h12 hcon ⊢
  clear hn hcmp
  have HC := Aside0.mk hcon
  clear hcon
  go_enter Try.func115, Try.ntmps115
  go_wp2_with fail
  refine HC.out.mono ?_
  rintro e w' ⟨rfl, hS⟩
  go_wp2_with fail
  go_end0
  exact ⟨rfl, hS⟩
end
theorem nan_no (x : Int) (w : World) : Calls Try.prog 128 #[.int .i64 x] w fun e w' => e = .returned (.bool false) ∧ w = w' := by
  go_enter Try.func128, Try.ntmps128
  go_wp2_with fail
  go_ret
  exact ⟨by simp, rfl⟩
def cmpI (x y : Int) : Int := if x < y then -1 else if y < x then 1 else 0
theorem cmp_calls (x y : Int) (w : World) : Calls Try.prog 117 #[.int .i64 x, .int .i64 y] w fun e w' => e = .returned (.int .i64 (cmpI x y)) ∧ w = w' := by
  by_cases h1 : x < y
  · go_enter Try.func117, Try.ntmps117
    go_wp2_with (go_at_call 128; refine (nan_no _ _).mono ?_; rintro e w' ⟨rfl, rfl⟩)
    go_ret
    exact ⟨by simp [cmpI, h1], rfl⟩
  · by_cases h2 : y < x
    · go_enter Try.func117, Try.ntmps117
      go_wp2_with (go_at_call 128; refine (nan_no _ _).mono ?_; rintro e w' ⟨rfl, rfl⟩)
      go_ret
      exact ⟨by simp [cmpI, h1, h2], rfl⟩
    · go_enter Try.func117, Try.ntmps117
      go_wp2_with (go_at_call 128; refine (nan_no _ _).mono ?_; rintro e w' ⟨rfl, rfl⟩)
      go_ret
      exact ⟨by rw [show cmpI x y = 0 from by (unfold cmpI; rw [if_neg (by omega), if_neg (by omega)])]; rfl, rfl⟩
end Go.Proofs.Ytgjifkegfbpjkaa
end
