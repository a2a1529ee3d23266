/- The memory of the search, and the lesser of two. -/
import Derived.Test.YtgjifkegfbpjkaaXCkNeeds
import Derived.DeepKeys4
import Derived.Maps.OwnSet
import Derived.Maps.Views
section
namespace Go.Proofs.Ytgjifkegfbpjkaa.Q
set_option linter.unusedVariables false
open Go.RowKit Go.Maps Go.Proofs.YtgjifkegfbpjkaaW.PrintWords Go.Proofs.YtgjifkegfbpjkaaW.PrintLast Go.Proofs.YtgjifkegfbpjkaaW.PrintMore
theorem laidOut : laidOutB Try.prog = true := by kernel_rfl
theorem row160 : (160 : TypeId) < Try.prog.types.size := of_decide_eq_true (by kernel_rfl)
theorem wide160 : (match Try.prog.underlying 160 with | some (.array _ _) | some (.struct _) => true | _ => false) = true := by kernel_rfl
theorem cells160 : Try.prog.cellsOf 160 = 2 := by kernel_rfl
set_option maxRecDepth 100000 in
theorem law160 : Keyed Try.prog 160 := Keyed.of_law (deep_law_laid laidOut (m := 3) (by omega) row160 (by kernel_rfl) wide160)
set_option maxRecDepth 100000 in
theorem zero3 (w : World) : (zeroValue 3).run Try.prog w = .ok (.int .i64 0) w := by kernel_rfl
theorem keyT160 : Try.prog.keyType 160 = true := by kernel_rfl
theorem formed160 (i l : Int) : (Value.agg #[.int .i64 i, .int .i64 l]).formed Try.prog 160 = true := by
  simp [Value.formed, Try.underlying160, cells160]
theorem key_some (i l : Int) (hi : (Lit.int .i64 i).wf = true) (hl : (Lit.int .i64 l).wf = true) : ∃ kl, keyOf Try.prog 160 (.agg #[.int .i64 i, .int .i64 l]) = some kl := by
  unfold keyOf
  rw [Try.underlying160]
  simp only [keyT160, formed160, Bool.and_self, if_true]
  have hcs : (Value.agg #[.int .i64 i, .int .i64 l]).cells.toList = [.int .i64 i, .int .i64 l] := rfl
  rw [hcs]
  obtain ⟨m, hm⟩ : ∃ m, Try.prog.types.size = m + 1 := Nat.exists_eq_succ_of_ne_zero (Nat.ne_of_gt (Nat.lt_of_le_of_lt (Nat.zero_le _) row160))
  rw [hm]
  have h1 : Try.prog.keyLits (m + 1) 3 [.int .i64 i] = some [.int .i64 i] := by
    simp [Program.keyLits, Try.underlying3, hi]
  have h2 : Try.prog.keyLits (m + 1) 3 [.int .i64 l] = some [.int .i64 l] := by
    simp [Program.keyLits, Try.underlying3, hl]
  have hc3 : Try.prog.cellsOf 3 = 1 := by kernel_rfl
  rw [Program.keyLits.eq_def]
  simp only [Try.underlying160, cells160]
  exact ⟨.string (keyBytes [.int .i64 i, .int .i64 l]), by simp [hc3, h1, h2]⟩
def Memo (W : World) (b n : Nat) (L : Int → Int → Int) : Prop :=
  ∃ D : DataW Unit, W.ownsMap Try.prog 160 (plainElem Try.prog 3) b n D ∧ ∀ i l kl, keyOf Try.prog 160 (.agg #[.int .i64 i, .int .i64 l]) = some kl → Maps.has D kl = true → D.atKey kl (.lit (.int .i64 0)) = .lit (.int .i64 (L i l))
theorem Memo.made (w : World) (L : Int → Int → Int) : Memo (w.alloc (.map #[] 0)) w.heap.size 0 L :=
  ⟨.map [], World.ownsMap_made w Try.prog 160 (plainElem Try.prog 3), fun i l kl _ h => by simp [Maps.has_eq] at h⟩
section
variable {W W' : World} {b n : Nat} {L : Int → Int → Int}
theorem Memo.lt (h : Memo W b n L) : b < W.heap.size := let ⟨_, h, _⟩ := h; h.lt
theorem Memo.mono {n' : Nat} (h : Memo W b n L) (hn : n ≤ n') : Memo W b n' L := let ⟨D, h, h'⟩ := h; ⟨D, h.mono hn, h'⟩
theorem Memo.kept {row : Option Nat} (h : Memo W b n L) (hg : W.grownBy W' row) (hne : some b ≠ row) : Memo W' b n L := let ⟨D, h, h'⟩ := h; ⟨D, h.kept hg hne, h'⟩
set_option maxRecDepth 100000 in
theorem Memo.look (h : Memo W b n L) (i l : Int) (hi : (Lit.int .i64 i).wf = true) (hl : (Lit.int .i64 l).wf = true) :
    ∃ v ok, (∀ W2 : World, W2.heap = W.heap → (Instr.lookup 155 (.map (some b)) (.agg #[.int .i64 i, .int .i64 l]) true).run Try.prog W2 = .ok (.tuple #[.int .i64 v, .bool ok]) W2) ∧ (ok = true → v = L i l) := by
  obtain ⟨D, h, h'⟩ := h
  obtain ⟨kl, hk⟩ := key_some i l hi hl
  have key : ∀ W2 : World, W2.heap = W.heap → ∃ c, (Instr.lookup 155 (.map (some b)) (.agg #[.int .i64 i, .int .i64 l]) true).run Try.prog W2 = .ok (.tuple #[.int .i64 c, .bool (Maps.has D kl)]) W2 ∧ D.atKey kl (.lit (.int .i64 0)) = .lit (.int .i64 c) := by
    intro W2 hh
    have h2 : W2.ownsMap Try.prog 160 (plainElem Try.prog 3) b n D := by
      obtain ⟨es, clock, hb, F, hs, hD⟩ := h
      exact ⟨es, clock, by rw [hh]; exact hb, F, hs, hD⟩
    obtain ⟨v, ps, hrun, hv⟩ := h2.look_ok law160 Try.underlying155 (zero3 W2) (plainElem_int (H := Unit) Try.underlying3 (by decide)) hk
    obtain ⟨c, rfl, hc, _⟩ := plainElem_int_inv Try.underlying3 hv
    rw [Prod.mk.injEq] at hc
    exact ⟨c, hrun, hc.1⟩
  obtain ⟨c, hrun, hc⟩ := key W rfl
  refine ⟨c, Maps.has D kl, fun W2 hh => ?_, fun hh => ?_⟩
  · obtain ⟨c2, hrun2, hc2⟩ := key W2 hh
    rw [hc] at hc2
    injection hc2 with hc2
    injection hc2 with _ hc2
    rw [hc2]; exact hrun2
  · have h2 := h' i l kl hk hh
    rw [h2] at hc
    injection hc with hc
    injection hc with _ hc
    exact hc.symm
set_option maxRecDepth 100000 in
theorem Memo.store (h : Memo W b n L) (hn : n < maxLen) (i l : Int) (hi : (Lit.int .i64 i).wf = true) (hl : (Lit.int .i64 l).wf = true) (hv : (Lit.int .i64 (L i l)).wf = true) :
    ∃ W', (Instr.mapUpdate 155 (.map (some b)) (.agg #[.int .i64 i, .int .i64 l]) (.int .i64 (L i l))).run Try.prog W = .ok () W' ∧ Memo W' b (n + 1) L ∧ W.grownBy W' (some b) := by
  obtain ⟨D, h, h'⟩ := h
  obtain ⟨kl, hk⟩ := key_some i l hi hl
  obtain ⟨W', hrun, ho, hg⟩ := h.update law160 Try.underlying155 hn hk (plainElem_int (H := Unit) Try.underlying3 hv)
  refine ⟨W', hrun, ⟨_, ho, fun i2 l2 kl2 hk2 hh => ?_⟩, hg⟩
  by_cases he : kl2 = kl
  · subst he
    have := law160.inj hk hk2
    simp at this
    obtain ⟨rfl, rfl⟩ := this
    exact atKey_put_same h.isMap (law160.key hk) _ _
  · rw [atKey_put_other he]
    rw [has_put_other he] at hh
    exact h' i2 l2 kl2 hk2 hh
end
end Go.Proofs.Ytgjifkegfbpjkaa.Q
end
section
namespace Go.Proofs.Ytgjifkegfbpjkaa.Q
set_option linter.unusedVariables false
open Go.RowKit Go.Maps Go.Proofs.YtgjifkegfbpjkaaW.PrintWords Go.Proofs.YtgjifkegfbpjkaaW.PrintLast Go.Proofs.YtgjifkegfbpjkaaW.PrintMore
attribute [local go_sem] max2_int min2_int max_two min_two max_three min_three max_four min_four
def mi (a b : Int) : Int := if b < a then b else a
set_option maxHeartbeats 400000 in
set_option maxRecDepth 100000 in
theorem sMin2 (g : Nat) (a b : Int) (w : World) (h0 : w.cell? ⟨g, 0, none⟩ = some (.int .i64 a)) (h1 : w.cell? ⟨g, 1, none⟩ = some (.int .i64 b)) :
    Calls Try.prog 118 #[.slice (some ⟨g, 0, none⟩) 2 2] w fun e w' => e = .returned (.int .i64 (mi a b)) ∧ w = w' := by
  by_cases h : b < a
  · go_enter Try.func118, Try.ntmps118
    go_wp2_with fail
    refine wp_loop_rounds 2 ?_
    rw [rounds_succ]
    go_wp2_with fail
    rw [rounds_succ]
    go_wp2_with fail
    go_ret
    exact ⟨ret_i64 (by unfold mi; rw [if_pos h]), rfl⟩
  · go_enter Try.func118, Try.ntmps118
    go_wp2_with fail
    refine wp_loop_rounds 2 ?_
    rw [rounds_succ]
    go_wp2_with fail
    rw [rounds_succ]
    go_wp2_with fail
    go_ret
    exact ⟨ret_i64 (by unfold mi; rw [if_neg (by omega)]), rfl⟩
set_option maxHeartbeats 400000 in
set_option maxRecDepth 100000 in
theorem min2 (g : Nat) (a b : Int) (w : World) (h0 : w.cell? ⟨g, 0, none⟩ = some (.int .i64 a)) (h1 : w.cell? ⟨g, 1, none⟩ = some (.int .i64 b)) :
    Calls Try.prog 89 #[.slice (some ⟨g, 0, none⟩) 2 2] w fun e w' => e = .returned (.int .i64 (mi a b)) ∧ w = w' := by
  go_enter Try.func89, Try.ntmps89
  go_wp2_with fail
  refine (sMin2 g a b _ h0 h1).mono ?_
  rintro e w' ⟨rfl, rfl⟩
  go_wp2_with fail
  go_ret
  exact ⟨rfl, rfl⟩
end Go.Proofs.Ytgjifkegfbpjkaa.Q
end
