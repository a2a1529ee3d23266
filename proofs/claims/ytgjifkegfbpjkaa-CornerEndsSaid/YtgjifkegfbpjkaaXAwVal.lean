/- The document's examples, reckoned, of package corner. -/
import Derived.Test.YtgjifkegfbpjkaaXCkProve
import Derived.Test.YtgjifkegfbpjkaaXCkCorner
import Derived.Test.YtgjifkegfbpjkaaXCkLeave
import Derived.Test.YtgjifkegfbpjkaaXCkShow
import Derived.Test.YtgjifkegfbpjkaaXQf30
import Derived.Test.YtgjifkegfbpjkaaXQf32
import Derived.Test.YtgjifkegfbpjkaaXQf35
import Derived.Test.YtgjifkegfbpjkaaXQf23
section
namespace Go.Proofs.Ytgjifkegfbpjkaa.Q
set_option linter.unusedVariables false
set_option linter.unusedSimpArgs false
open Go.RowKit Go.Maps Go.Proofs.YtgjifkegfbpjkaaW.PrintWords Go.Proofs.YtgjifkegfbpjkaaW.PrintLast Go.Proofs.YtgjifkegfbpjkaaW.PrintMore
def fH (a b : Int) : List S73 := [⟨⟨a, b⟩, false, 0⟩, ⟨⟨10, 30⟩, true, 200⟩, ⟨⟨0, 15⟩, true, 150⟩, ⟨⟨0, 5⟩, false, 0⟩]
def fC : List S75 := [⟨3, 0, 25⟩, ⟨1, 0, 10⟩]
theorem ins4 {α : Type} [Inhabited α] (lt : α → α → Bool) (d : Array α) : Go.Sort.insertionSort lt d 0 4 = Go.Sort.insInner lt 0 3 (Go.Sort.insInner lt 0 2 (Go.Sort.insInner lt 0 1 d)) := by
  unfold Go.Sort.insertionSort
  rw [Go.Sort.insOuter, if_pos (by decide), Go.Sort.insOuter, if_pos (by decide), Go.Sort.insOuter, if_pos (by decide), Go.Sort.insOuter, if_neg (by decide)]
theorem ord4 (a b : Int) : (ordF (fH a b) (Nat.succ_pos 3)).map (fun i => i.1) = [0, 3, 2, 1] := by
  unfold ordF ordA
  have h := @ins4 (Fin (fH a b).length) ⟨⟨0, Nat.succ_pos 3⟩⟩ (Go.Proofs.ltOf fun i j : Fin (fH a b).length => askI (fH a b) i.1 j.1) (Array.ofFn fun i : Fin (fH a b).length => i)
  refine Eq.trans (congrArg (fun (x : Array (Fin (fH a b).length)) => x.toList.map (fun i => i.1)) h) ?_
  kernel_rfl
theorem stAll4 (a b : Int) (h : 0 < (fH a b).length) (nd sp : List Int) : stAll (fH a b) h nd sp = [0, 3, 2, 1].foldl (stFrom (fH a b)) ⟨[], 0, nd, sp⟩ := by
  unfold stAll; rw [show h = Nat.succ_pos 3 from rfl, ord4]
theorem ck4 : ck 100 (fH 60 80) fC = 0 := by kernel_rfl
theorem needs_a : corner_Needs.f 16 100 (fH 60 80) fC [70, 20, 8, 2] = some ([0, 0, 0, 23], [0, 10, 8, 0], 0) := by kernel_rfl
theorem needs_b : corner_Needs.f 16 100 (fH 60 80) fC [60, 30, 10, 0] = some ([0, 0, 0, 25], [0, 20, 10, 0], 0) := by kernel_rfl
theorem lst_a : lst false fC (fH 60 80) 0 100 = -5 := by kernel_rfl
theorem lst_b : lst true fC (fH 60 80) 0 100 = -15 := by kernel_rfl
theorem lst_c : lst false fC (keepL (fH 60 80) [1]) 0 100 = 5 := by kernel_rfl
theorem lst_d : lst true fC (keepL (fH 60 80) [1]) 0 100 = -25 := by kernel_rfl
theorem lst_e : lst false fC (keepL (fH 60 80) [2]) 0 100 = 0 := by kernel_rfl
theorem lst_f : lst true fC (keepL (fH 60 80) [2]) 0 100 = -25 := by kernel_rfl
theorem shortR_a : shortR 100 (fH 60 80) fC = (-5, 15, true) := by unfold shortR; rw [lst_a, lst_b, if_neg (by decide)]; rfl
theorem shortR_c : shortR 100 (keepL (fH 60 80) [1]) fC = (5, 25, true) := by unfold shortR; rw [lst_c, lst_d, if_neg (by decide)]; rfl
theorem shortR_e : shortR 100 (keepL (fH 60 80) [2]) fC = (0, 25, true) := by unfold shortR; rw [lst_e, lst_f, if_neg (by decide)]; rfl
theorem asked_a : corner_Market_asked.f 100 (fH 60 80) fC = some (-5, 15, 0) := by
  unfold corner_Market_asked.f corner_CheckMarket.f corner_Market_shortage.f
  rw [ck4, if_pos rfl, shortR_a]; rfl
theorem short_a : corner_Shortage.f 100 (fH 60 80) fC = some (-5, 15, 0) := by unfold corner_Shortage.f; rw [asked_a]; rfl
theorem cornered_a : corner_Cornered.f 100 (fH 60 80) fC = some (false, true, 0) := by unfold corner_Cornered.f; rw [asked_a]; rfl
theorem keep_c : corner_Market_keeping.f 100 (fH 60 80) fC [1] = some (5, 25) := by
  unfold corner_Market_keeping.f; rw [if_pos ⟨ck4, by decide⟩, shortR_c]
theorem keep_e : corner_Market_keeping.f 100 (fH 60 80) fC [2] = some (0, 25) := by
  unfold corner_Market_keeping.f; rw [if_pos ⟨ck4, by decide⟩, shortR_e]
theorem ess_a : corner_Essential.f 8 100 (fH 60 80) fC = some ([1], [1, 2], 0) := by
  have hl : ((fH 60 80).length : Int) = 4 := rfl
  have r0 : (rd_T73 (fH 60 80) 0).f1 = false := rfl
  have r1 : (rd_T73 (fH 60 80) 1).f1 = true := rfl
  have r2 : (rd_T73 (fH 60 80) 2).f1 = true := rfl
  have r3 : (rd_T73 (fH 60 80) 3).f1 = false := rfl
  have w0 : wrap64 1 = 1 := by unfold wrap64; omega
  have w1 : wrap64 2 = 2 := by unfold wrap64; omega
  have w2 : wrap64 3 = 3 := by unfold wrap64; omega
  have w3 : wrap64 4 = 4 := by unfold wrap64; omega
  unfold corner_Essential.f
  rw [asked_a]
  simp [corner_Essential.l0, hl, r0, r1, r2, r3, keep_c, keep_e, w0, w1, w2, w3]
theorem corner_a : corner_Corner.f 100 (fH 60 80) fC = some ([1], 0) := by
  unfold corner_Corner.f
  rw [asked_a]
  have h0 : crn 100 (fH 60 80) fC 0 [] 0 = none := by
    unfold crn; rw [show keepL (fH 60 80) [] = fH 60 80 from rfl, shortR_a]; rfl
  have h1 : crn 100 (fH 60 80) fC 0 ([] ++ [((1 : Nat) : Int)]) (1 + 1) = some [1] := by
    unfold crn; rw [show keepL (fH 60 80) ([] ++ [((1 : Nat) : Int)]) = keepL (fH 60 80) [1] from rfl, shortR_c]; rfl
  have h2 : crn 100 (fH 60 80) fC 1 [] 0 = some [1] := by
    rw [crn, show List.range' 0 ((fH 60 80).length - 0) = [0, 1, 2, 3] from rfl, List.findSome?_cons, if_neg (by decide), List.findSome?_cons, if_pos (by rfl), h1]
  have h3 : crnFrom 100 (fH 60 80) fC 0 = some [1] := by
    unfold crnFrom
    rw [show List.range' 0 ((fH 60 80).length + 1 - 0) = [0, 1, 2, 3, 4] from rfl, List.findSome?_cons, h0, List.findSome?_cons, h2]
  simp [h3]
theorem settle_a : corner_Settle.f 100 (fH 60 80) fC [60, 30, 10, 0] = some ([⟨2, 3, 10⟩, ⟨1, 3, 15⟩], 4500, 0) := by
  unfold corner_Settle.f
  rw [needs_b]
  show some (stRes (fH 60 80) [0, 0, 0, 25] [0, 20, 10, 0]) = _
  unfold stRes
  rw [dif_pos (show 0 < (fH 60 80).length from Nat.succ_pos 3), stAll4]
  kernel_rfl
theorem leave_a : corner_Leave.f 100 (fH 40 41) fC = some ([0], 0) := by kernel_rfl
theorem prove_a : corner_ProveSettled.f 100 (fH 60 80) fC [60, 30, 10, 0] [⟨2, 3, 10⟩, ⟨1, 3, 15⟩] 4500 = some true := by
  unfold corner_ProveSettled.f
  rw [if_pos (by decide), needs_b]
  kernel_rfl
theorem ptruth_a : corner_ProveTruth.f 8 100 (fH 60 80) fC [80, 10, 5, 5] = some true := by kernel_rfl
theorem trL_a : trL true fC (fH 60 80) 0 100 = [80, 10, 5, 5] := by kernel_rfl
theorem show_a : corner_Show.f 100 (fH 60 80) fC true = some ([80, 10, 5, 5], 0) := by
  unfold corner_Show.f; rw [asked_a]; show some (if (0 : Int) = 0 then (trL true fC (fH 60 80) 0 100, 0) else ([], 0)) = _; rw [trL_a]; rfl
end Go.Proofs.Ytgjifkegfbpjkaa.Q
end
