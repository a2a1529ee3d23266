/- Walks: ProveSettled of package corner. -/
import Derived.Test.YtgjifkegfbpjkaaXCkSettle
import Derived.Test.YtgjifkegfbpjkaaXSmall
import Derived.Lib.QuietBelow
import Derived.Laws.CopyOwn
import Derived.Laws.Rows
section
namespace Go.Proofs.Ytgjifkegfbpjkaa.Q
set_option linter.unusedVariables false
set_option linter.unusedSimpArgs false
open Go.RowKit Go.Maps Go.Proofs.YtgjifkegfbpjkaaW.PrintWords Go.Proofs.YtgjifkegfbpjkaaW.PrintLast Go.Proofs.YtgjifkegfbpjkaaW.PrintMore
def hB (n : Nat) (x : Int) : Bool := decide (0 ≤ x ∧ x < (n : Int))
structure Pst where
  lf : List Int
  sp : List Int
  sum : Int
def psOk (n : Nat) (sp : List Int) (x : S71) : Bool := hB n x.f0 && hB n x.f1 && !(x.f0 == x.f1) && decide (1 ≤ x.f2 ∧ x.f2 ≤ sp.getD x.f0.toNat 0)
def psStep (hs : List S73) (s : Pst) (x : S71) : Pst := ⟨s.lf.set x.f1.toNat (wrap64 (s.lf.getD x.f1.toNat 0 - x.f2)), s.sp.set x.f0.toNat (wrap64 (s.sp.getD x.f0.toNat 0 - x.f2)), wrap64 (s.sum + wrap64 (x.f2 * (rd_T73 hs x.f0).f2))⟩
def psAll (hs : List S73) : List S71 → Pst → Option Pst
  | [], s => some s
  | x :: l, s => if psOk hs.length s.sp x = true then psAll hs l (psStep hs s x) else none
def padL (l : List Int) : List Int := l ++ List.replicate (6 - l.length) 0
def psRes (hs : List S73) (nd sp : List Int) (l : List S71) (cost : Int) : Bool := match psAll hs l ⟨padL nd, sp, 0⟩ with
  | some s => s.lf.all (fun x => x == 0) && decide (s.sum ≤ cost)
  | none => false
def corner_ProveSettled.f (a0_0 : Int) (l0_1 : List (S73)) (l0_2 : List (S75)) (l1 : List Int) (l2 : List (S71)) (a3 : Int) : Option (Bool) :=
  if l2.length ≤ 1000000 then (corner_Needs.f 16 a0_0 l0_1 l0_2 l1).bind fun t => some (if t.2.2 = 0 then psRes l0_1 t.1 t.2.1 l2 a3 else false) else none
theorem house_f (e : Int) (hs : List S73) (cs : List S75) (x : Int) (hn : hs.length ≤ 6) : corner_Market_house.f e hs cs x = some (hB hs.length x) := by
  unfold corner_Market_house.f corner_within.f hB
  rw [show wrap64 ((hs.length : Int) - 1) = (hs.length : Int) - 1 from by unfold wrap64; omega]
  split
  · rename_i h; simp [h]; omega
  · rename_i h; simp [h]
theorem hB_nat {n : Nat} {x : Int} (h : hB n x = true) : ∃ p : Nat, x = (p : Int) ∧ p < n := by
  have := of_decide_eq_true h
  exact ⟨x.toNat, by omega, by omega⟩
theorem ret_no {hs : List S73} {nd sp : List Int} {l : List S71} {c : Int} {i : Nat} {x : S71} {s : Pst} (h : psAll hs (l.drop i) s = psAll hs l ⟨padL nd, sp, 0⟩) (hd : l.drop i = x :: l.drop (i + 1)) (hx : psOk hs.length s.sp x = false) : psRes hs nd sp l c = false := by
  unfold psRes
  rw [← h, hd, psAll, if_neg (by rw [hx]; simp)]
theorem six_list {l : List Int} (h : l.length = 6) : ∃ y : Int × Int × Int × Int × Int × Int, l = [y.1, y.2.1, y.2.2.1, y.2.2.2.1, y.2.2.2.2.1, y.2.2.2.2.2] := by
  match l, h with
  | [a, b, c, d, e, f], _ => exact ⟨(a, b, c, d, e, f), rfl⟩
set_option maxRecDepth 100000 in
theorem eq142 (d : Nat) (y0 y1 y2 y3 y4 y5 : Int) (w : World) : (Op.equalIn (d + 2) 142 (.agg #[.int .i64 y0, .int .i64 y1, .int .i64 y2, .int .i64 y3, .int .i64 y4, .int .i64 y5]) (.agg #[.int .i64 0, .int .i64 0, .int .i64 0, .int .i64 0, .int .i64 0, .int .i64 0])).run Try.prog w = .ok (y0 == 0 && (y1 == 0 && (y2 == 0 && (y3 == 0 && (y4 == 0 && y5 == 0))))) w := by
  rw [Op.equalIn]
  simp only [Sem.run_bind, run_underlying Try.underlying142, Result.andThen_ok]
  have hz : ∀ w, (Go.sizeOf 3).run Try.prog w = .ok 1 w := fun w => by kernel_rfl
  simp only [hz, Result.andThen_ok]
  simp only [Std.Legacy.Range.forIn_eq_forIn_range', Std.Legacy.Range.size, List.range', Nat.reduceAdd, Nat.reduceSub, Nat.reduceDiv, List.forIn_cons, List.forIn_nil, Sem.run_bind]
  have p0 : ∀ w, (part 3 #[.int .i64 y0, .int .i64 y1, .int .i64 y2, .int .i64 y3, .int .i64 y4, .int .i64 y5] (0 * 1)).run Try.prog w = .ok (.int .i64 y0) w := fun w => by rfl
  have q0 : ∀ w, (part 3 #[.int .i64 0, .int .i64 0, .int .i64 0, .int .i64 0, .int .i64 0, .int .i64 0] (0 * 1)).run Try.prog w = .ok (.int .i64 0) w := fun w => by rfl
  have p1 : ∀ w, (part 3 #[.int .i64 y0, .int .i64 y1, .int .i64 y2, .int .i64 y3, .int .i64 y4, .int .i64 y5] (1 * 1)).run Try.prog w = .ok (.int .i64 y1) w := fun w => by rfl
  have q1 : ∀ w, (part 3 #[.int .i64 0, .int .i64 0, .int .i64 0, .int .i64 0, .int .i64 0, .int .i64 0] (1 * 1)).run Try.prog w = .ok (.int .i64 0) w := fun w => by rfl
  have p2 : ∀ w, (part 3 #[.int .i64 y0, .int .i64 y1, .int .i64 y2, .int .i64 y3, .int .i64 y4, .int .i64 y5] (2 * 1)).run Try.prog w = .ok (.int .i64 y2) w := fun w => by rfl
  have q2 : ∀ w, (part 3 #[.int .i64 0, .int .i64 0, .int .i64 0, .int .i64 0, .int .i64 0, .int .i64 0] (2 * 1)).run Try.prog w = .ok (.int .i64 0) w := fun w => by rfl
  have p3 : ∀ w, (part 3 #[.int .i64 y0, .int .i64 y1, .int .i64 y2, .int .i64 y3, .int .i64 y4, .int .i64 y5] (3 * 1)).run Try.prog w = .ok (.int .i64 y3) w := fun w => by rfl
  have q3 : ∀ w, (part 3 #[.int .i64 0, .int .i64 0, .int .i64 0, .int .i64 0, .int .i64 0, .int .i64 0] (3 * 1)).run Try.prog w = .ok (.int .i64 0) w := fun w => by rfl
  have p4 : ∀ w, (part 3 #[.int .i64 y0, .int .i64 y1, .int .i64 y2, .int .i64 y3, .int .i64 y4, .int .i64 y5] (4 * 1)).run Try.prog w = .ok (.int .i64 y4) w := fun w => by rfl
  have q4 : ∀ w, (part 3 #[.int .i64 0, .int .i64 0, .int .i64 0, .int .i64 0, .int .i64 0, .int .i64 0] (4 * 1)).run Try.prog w = .ok (.int .i64 0) w := fun w => by rfl
  have p5 : ∀ w, (part 3 #[.int .i64 y0, .int .i64 y1, .int .i64 y2, .int .i64 y3, .int .i64 y4, .int .i64 y5] (5 * 1)).run Try.prog w = .ok (.int .i64 y5) w := fun w => by rfl
  have q5 : ∀ w, (part 3 #[.int .i64 0, .int .i64 0, .int .i64 0, .int .i64 0, .int .i64 0, .int .i64 0] (5 * 1)).run Try.prog w = .ok (.int .i64 0) w := fun w => by rfl
  have he : ∀ (a b : Int) w, (Op.equalIn (d + 1) 3 (.int .i64 a) (.int .i64 b)).run Try.prog w = .ok (a == b) w := fun a b w => run_equalIn_int w d 3 .i64 .i64 a b Try.underlying3
  simp only [p0, q0, Result.andThen_ok, he]
  cases h0 : (y0 == 0) <;> simp only [Bool.not_true, Bool.not_false, if_true, if_false, Sem.run_pure, Result.andThen_ok, Bool.false_eq_true, Sem.run_bind, p1, q1, he, Bool.true_and, Bool.false_and]
  cases h1 : (y1 == 0) <;> simp only [Bool.not_true, Bool.not_false, if_true, if_false, Sem.run_pure, Result.andThen_ok, Bool.false_eq_true, Sem.run_bind, p2, q2, he, Bool.true_and, Bool.false_and]
  cases h2 : (y2 == 0) <;> simp only [Bool.not_true, Bool.not_false, if_true, if_false, Sem.run_pure, Result.andThen_ok, Bool.false_eq_true, Sem.run_bind, p3, q3, he, Bool.true_and, Bool.false_and]
  cases h3 : (y3 == 0) <;> simp only [Bool.not_true, Bool.not_false, if_true, if_false, Sem.run_pure, Result.andThen_ok, Bool.false_eq_true, Sem.run_bind, p4, q4, he, Bool.true_and, Bool.false_and]
  cases h4 : (y4 == 0) <;> simp only [Bool.not_true, Bool.not_false, if_true, if_false, Sem.run_pure, Result.andThen_ok, Bool.false_eq_true, Sem.run_bind, p5, q5, he, Bool.true_and, Bool.false_and]
  cases h5 : (y5 == 0) <;> simp only [Bool.not_true, Bool.not_false, if_true, if_false, Sem.run_pure, Result.andThen_ok, Bool.false_eq_true]
theorem house_b (W0 : World) (ex : Int) (A1 : Option Addr) (c1 : Nat) (hs : List S73) (A2 : Option Addr) (c2 : Nat) (cs : List S75) (m1 : Kd.C k73 W0 A1 hs.length hs) (h1 : hs.length ≤ c1) (m2 : Kd.C k75 W0 A2 cs.length cs) (h2 : cs.length ≤ c2) (hn : hs.length ≤ 6) (x : Int) (b : Bool) (hb : hB hs.length x = b) (d : Nat) (os : Array Obj) :
    Calls Try.prog 91 #[.agg #[.int .i64 ex, .slice A1 hs.length c1, .slice A2 cs.length c2], .int .i64 x] (Go.Sort.grow (redrawn W0 d) os) fun e w' => e = .returned (.bool b) ∧ ∃ p : Regrown, w' = Go.Sort.grow (redrawn W0 p.d) p.os := by
  refine Calls.regrown_of ?_
  have hbw := below_regrown W0 d os
  exact corner_Market_house.calls ex A1 c1 hs A2 c2 cs x b _ (Kd.C_below m1 hbw) h1 (Kd.C_below m2 hbw) h2 (by rw [house_f ex hs cs x hn, hb])
theorem within_b (W0 : World) (x lo hi : Int) (b : Bool) (hb : corner_within.f x lo hi = some b) (d : Nat) (os : Array Obj) :
    Calls Try.prog 70 #[.int .i64 x, .int .i64 lo, .int .i64 hi] (Go.Sort.grow (redrawn W0 d) os) fun e w' => e = .returned (.bool b) ∧ ∃ p : Regrown, w' = Go.Sort.grow (redrawn W0 p.d) p.os := by
  refine Calls.regrown_of ?_
  exact (corner_within.calls x lo hi b _ hb).mono fun _ _ ⟨he, hd⟩ => ⟨he, hd.below⟩
theorem zero_drop (l : List Value) (n : Nat) (hl : l.length = n) (hn : n ≤ 6) : (([.int .i64 0, .int .i64 0, .int .i64 0, .int .i64 0, .int .i64 0, .int .i64 0] : List Value).take 0 ++ (l ++ ([.int .i64 0, .int .i64 0, .int .i64 0, .int .i64 0, .int .i64 0, .int .i64 0] : List Value).drop (0 + n))) = l ++ List.replicate (6 - n) (.int .i64 0) := by
  rw [Nat.zero_add]
  match n, hn with
  | 0, _ => rfl
  | 1, _ => rfl
  | 2, _ => rfl
  | 3, _ => rfl
  | 4, _ => rfl
  | 5, _ => rfl
  | 6, _ => rfl
theorem nums_pad (l : List Int) : nums .i64 (padL l) = nums .i64 l ++ List.replicate (6 - l.length) (.int .i64 0) := by simp [nums, padL]
structure Pt (b0 bL bN : Nat) (mk : Array Value) (g2 q2 n : Nat) (lf sp : List Int) (W : World) : Prop where
  m : W.heap[b0]? = some (.cells mk 35 (0, 0))
  L : W.heap[bL]? = some (.cells (nums .i64 lf).toArray 142 (0, 0))
  N : W.heap[bN]? = some (.cells #[.int .i64 0, .int .i64 0, .int .i64 0, .int .i64 0, .int .i64 0, .int .i64 0] 142 (0, 0))
  rs : W.ownsRow (b0 + 1) 3 1 (.slice (some ⟨g2, 0, none⟩) n q2) n (nums .i64 sp)
  o1 : b0 < bL
  o2 : bL < bN
  o3 : g2 < bL
  ll : lf.length = 6
  ls : sp.length = n
section
variable {b0 bL bN : Nat} {mk : Array Value} {g2 q2 n : Nat} {lf sp : List Int} {W W1 : World}
theorem Pt.stay (h : Pt b0 bL bN mk g2 q2 n lf sp W) (hs : Stay W W1) : Pt b0 bL bN mk g2 q2 n lf sp W1 :=
  { h with m := hs _ _ h.m rfl, L := hs _ _ h.L rfl, N := hs _ _ h.N rfl, rs := own_stay h.rs hs }
theorem Pt.g2b (h : Pt b0 bL bN mk g2 q2 n lf sp W) : b0 + 1 ≤ g2 := own_base h.rs g2 (by simp [Value.ownBlock])
theorem set_obj {W : World} {b : Nat} {cs : Array Value} {t : TypeId} (h : W.heap[b]? = some (.cells cs t (0, 0))) (j : Nat) (v : Value) : (W.setCell ⟨b, j, none⟩ v).heap[b]? = some (.cells (cs.setIfInBounds j v) t (0, 0)) := by
  obtain ⟨hlt, hk⟩ := Array.getElem?_eq_some_iff.1 h
  show (W.heap.modify b _)[b]? = _
  rw [Array.getElem?_eq_getElem (by rw [Array.size_modify]; exact hlt), Array.getElem_modify_self, hk]
  rfl
theorem cell_obj {W : World} {b : Nat} {cs : Array Value} {t : TypeId} (h : W.heap[b]? = some (.cells cs t (0, 0))) (j : Nat) : W.cell? ⟨b, j, none⟩ = cs[j]? := by simp [World.cell?, h]
theorem frozen_obj {W : World} {b : Nat} {cs : Array Value} {t : TypeId} (h : W.heap[b]? = some (.cells cs t (0, 0))) (j : Nat) : W.frozen? ⟨b, j, none⟩ = false := by simp [World.frozen?, h]
theorem Pt.setL (h : Pt b0 bL bN mk g2 q2 n lf sp W) (j : Nat) (c : Int) : Pt b0 bL bN mk g2 q2 n (lf.set j c) sp (W.setCell ⟨bL, j, none⟩ (.int .i64 c)) := by
  have hk : ∀ k, k ≠ bL → (W.setCell ⟨bL, j, none⟩ (.int .i64 c)).heap[k]? = W.heap[k]? := fun k hk => Below.heap_setCell W ⟨bL, j, none⟩ _ k hk
  have := h.o1; have := h.o2; have := h.o3; have := h.g2b
  refine { h with m := (hk _ (by omega)).trans h.m, L := ?_, N := (hk _ (by omega)).trans h.N, rs := own_move h.rs fun k e => hk k ?_, ll := by rw [List.length_set]; exact h.ll }
  · rw [set_obj h.L, nums_set]; simp
  · have e' : g2 = k := by simpa [Value.ownBlock] using e
    omega
theorem Pt.setS (h : Pt b0 bL bN mk g2 q2 n lf sp W) (j : Nat) (c : Int) : Pt b0 bL bN mk g2 q2 n lf (sp.set j c) (W.setCell ⟨g2, j, none⟩ (.int .i64 c)) := by
  have hk : ∀ k, k ≠ g2 → (W.setCell ⟨g2, j, none⟩ (.int .i64 c)).heap[k]? = W.heap[k]? := fun k hk => Below.heap_setCell W ⟨g2, j, none⟩ _ k hk
  have := h.o1; have := h.o2; have := h.o3; have := h.g2b
  refine { h with m := (hk _ (by omega)).trans h.m, L := (hk _ (by omega)).trans h.L, N := (hk _ (by omega)).trans h.N, rs := ?_, ls := by rw [List.length_set]; exact h.ls }
  rw [nums_set]; exact (h.rs.stored j _).1
end
set_option maxHeartbeats 1000000 in
set_option maxRecDepth 100000 in
theorem prove_walk (a0_0 : Int) (A0_1 : Option Addr) (c0_1 : Nat) (l0_1 : List (S73)) (A0_2 : Option Addr) (c0_2 : Nat) (l0_2 : List (S75)) (A1 : Option Addr) (c1 : Nat) (l1 : List Int) (A2 : Option Addr) (c2 : Nat) (l2 : List (S71)) (a3 : Int) (nd sp : List Int) (w : World) (hr0_1 : Kd.C k73 w A0_1 l0_1.length l0_1) (hc0_1 : l0_1.length ≤ c0_1) (hr0_2 : Kd.C k75 w A0_2 l0_2.length l0_2) (hc0_2 : l0_2.length ≤ c0_2) (hr1 : Kd.C (Kd.int .i64) w A1 l1.length l1) (hc1 : l1.length ≤ c1) (hr2 : Kd.C k71 w A2 l2.length l2) (hc2 : l2.length ≤ c2) (hl2 : l2.length ≤ 1000000) (hn : corner_Needs.f 16 a0_0 l0_1 l0_2 l1 = some (nd, sp, 0)) :
    Calls Try.prog 44 #[.agg #[.int .i64 a0_0, .slice A0_1 l0_1.length c0_1, .slice A0_2 l0_2.length c0_2], .slice A1 l1.length c1, .slice A2 l2.length c2, .int .i64 a3] w fun e w' => e = .returned (.bool (psRes l0_1 nd sp l2 a3)) ∧ Below w.heap.size w w' := by
  have hu26 := Try.underlying26
  have hu35 := Try.underlying35
  have hu71 := Try.underlying71
  have hu142 := Try.underlying142
  obtain ⟨r, HRES⟩ : ∃ r, Aside0 (psRes l0_1 nd sp l2 a3 = r) := ⟨_, ⟨rfl⟩⟩
  rw [HRES.out]
  obtain ⟨hz, ht, hnd, hsp⟩ := needs_zero hn
  obtain ⟨hn0, hn6, -⟩ := ck_zero hz
  have hln : nd.length = l0_1.length := by rw [hnd, ndL_length]
  have hls : sp.length = l0_1.length := by rw [hsp, spL_length]
  have HN := Aside0.mk hn
  have M1 := Aside0.mk hr0_1
  have M2 := Aside0.mk hr0_2
  have M3 := Aside0.mk hr1
  have M4 := Aside0.mk hr2
  have C1 := Aside0.mk hc0_1
  have C2 := Aside0.mk hc0_2
  have C3 := Aside0.mk hc1
  have LN := Aside0.mk hln
  have LS := Aside0.mk hls
  clear hz ht hnd hsp hn hr0_1 hr0_2 hr1 hr2 hc0_1 hc0_2 hc1 hc2 hln hls
  go_enter Try.func44, Try.ntmps44
  go_wp2_with fail
  have hb1 : Below w.heap.size w (w.alloc (.cells #[.int .i64 a0_0, .slice A0_1 l0_1.length c0_1, .slice A0_2 l0_2.length c0_2] 35)) := (Below.refl _ _).alloc (Nat.le_refl _) _
  refine (corner_Needs.calls 16 a0_0 A0_1 c0_1 l0_1 A0_2 c0_2 l0_2 A1 c1 l1 nd sp 0 _ (Kd.C_below M1.out hb1) C1.out (Kd.C_below M2.out hb1) C2.out (Kd.C_below M3.out hb1) C3.out HN.out).mono ?_
  rintro e W2 ⟨v0, v1, rfl, hr0, hr1, hb2⟩
  have hx0 := blk_below hb2 (blk_new w (.cells #[.int .i64 a0_0, .slice A0_1 l0_1.length c0_1, .slice A0_2 l0_2.length c0_2] 35))
  have ho0 := Kd.own_of_R hr0
  have ho1 := Kd.own_of_R hr1
  have hne := hr0.1
  have h0' : 0 < nd.length := by rw [LN.out]; exact hn0
  have h1' : 0 < sp.length := by rw [LS.out]; exact hn0
  obtain ⟨g1, q1, rfl⟩ := own_some ho0 h0'
  obtain ⟨g2, q2, rfl⟩ := own_some ho1 h1'
  have hne' : g1 ≠ g2 := fun e => hne g1 (by simp [Value.ownBlock]) (by simp [Value.ownBlock, e])
  rw [World.size_alloc] at ho0 ho1
  rw [LN.out] at ho0
  rw [LS.out] at ho1
  rw [LN.out, LS.out]
  obtain ⟨b0, HB0⟩ : ∃ b0, Aside0 (w.heap.size = b0) := ⟨_, ⟨rfl⟩⟩
  rw [HB0.out] at ho0 ho1 hx0 ⊢
  have HO0 := Aside0.mk ho0
  have HO1 := Aside0.mk ho1
  have HNE := Aside0.mk hne'
  have HB2 := Aside0.mk (hb1.trans (hb2.mono hb1.size))
  have HX0 := Aside0.mk hx0
  have HZ2 : Aside0 (b0 < W2.heap.size) := ⟨blk_lt hx0⟩
  clear hr0 hr1 ho0 ho1 hne hne' h0' h1' hb1 hb2 hx0
  have hb3 : Below W2.heap.size W2 ((W2.alloc (.cells #[.int .i64 0, .int .i64 0, .int .i64 0, .int .i64 0, .int .i64 0, .int .i64 0] 142)).alloc (.cells #[.int .i64 0, .int .i64 0, .int .i64 0, .int .i64 0, .int .i64 0, .int .i64 0] 142)) := ((Below.refl _ _).alloc (Nat.le_refl _) _).alloc (by simp) _
  have hgL : ((W2.alloc (.cells #[.int .i64 0, .int .i64 0, .int .i64 0, .int .i64 0, .int .i64 0, .int .i64 0] 142)).alloc (.cells #[.int .i64 0, .int .i64 0, .int .i64 0, .int .i64 0, .int .i64 0, .int .i64 0] 142)).heap[W2.heap.size]? = some (.cells #[.int .i64 0, .int .i64 0, .int .i64 0, .int .i64 0, .int .i64 0, .int .i64 0] 142 (0, 0)) := blk_old (blk_new _ _) _
  have hgN : ((W2.alloc (.cells #[.int .i64 0, .int .i64 0, .int .i64 0, .int .i64 0, .int .i64 0, .int .i64 0] 142)).alloc (.cells #[.int .i64 0, .int .i64 0, .int .i64 0, .int .i64 0, .int .i64 0, .int .i64 0] 142)).heap[W2.heap.size + 1]? = some (.cells #[.int .i64 0, .int .i64 0, .int .i64 0, .int .i64 0, .int .i64 0, .int .i64 0] 142 (0, 0)) := by have := blk_new (W2.alloc (.cells #[.int .i64 0, .int .i64 0, .int .i64 0, .int .i64 0, .int .i64 0, .int .i64 0] 142)) (.cells #[.int .i64 0, .int .i64 0, .int .i64 0, .int .i64 0, .int .i64 0, .int .i64 0] 142); rwa [World.size_alloc] at this
  have hsrc : ∀ (j : Nat) (v : Value), (nums .i64 nd)[j]? = some v → ((W2.alloc (.cells #[.int .i64 0, .int .i64 0, .int .i64 0, .int .i64 0, .int .i64 0, .int .i64 0] 142)).alloc (.cells #[.int .i64 0, .int .i64 0, .int .i64 0, .int .i64 0, .int .i64 0, .int .i64 0] 142)).cell? ((⟨g1, 0, none⟩ : Addr).add j) = some v := (pw_own_below HO0.out hb3).cells (by simp [Value.ownBlock])
  have hcl : (nums .i64 nd).length = Nat.min l0_1.length 6 := by simp only [nums, List.length_map, LN.out]; exact (Nat.min_eq_left hn6).symm
  have hx0' := blk_below hb3 HX0.out
  have HO0' := Aside0.mk (pw_own_below HO0.out hb3)
  have HO1' := Aside0.mk (pw_own_below HO1.out hb3)
  have HB3 := Aside0.mk (HB2.out.trans (hb3.mono HB2.out.size))
  have HGL := Aside0.mk hgL
  have HGN := Aside0.mk hgN
  have HSRC := Aside0.mk hsrc
  have HCL := Aside0.mk hcl
  have HFIT : Aside0 (0 + (nums .i64 nd).length ≤ 6) := ⟨by simp only [nums, List.length_map, LN.out]; omega⟩
  have HX0' := Aside0.mk hx0'
  clear hb3 hgL hgN hsrc hcl hx0'
  go_wp2_with ((with_reducible refine gate_builtin (b := .copy) (xs := #[.tmp 26, .tmp 27]) rfl ?_); refine wpList_copy_own rfl (.tmp 26) (.tmp 27) 26 26 rfl 3 Try.underlying26 (by kernel_rfl) W2.heap.size 0 6 6 ⟨g1, 0, none⟩ l0_1.length q1 rfl rfl #[.int .i64 0, .int .i64 0, .int .i64 0, .int .i64 0, .int .i64 0, .int .i64 0] 142 HGL.out (nums .i64 nd) HCL.out HSRC.out HFIT.out (fun v hv => by obtain ⟨x, _, rfl⟩ := List.mem_map.1 hv; rfl) ?_)
  have hpad : nums .i64 nd ++ List.drop (nums .i64 nd).length [.int .i64 0, .int .i64 0, .int .i64 0, .int .i64 0, .int .i64 0, .int .i64 0] = nums .i64 (padL nd) := by
    have := zero_drop (nums .i64 nd) _ rfl (by have := HFIT.out; omega)
    rw [Nat.zero_add] at this
    exact this.trans (by rw [nums_pad]; simp [nums])
  rw [hpad]
  have hP : Pt b0 W2.heap.size (W2.heap.size + 1) #[.int .i64 a0_0, .slice A0_1 l0_1.length c0_1, .slice A0_2 l0_2.length c0_2] g2 q2 l0_1.length (padL nd) sp (((W2.alloc (.cells #[.int .i64 0, .int .i64 0, .int .i64 0, .int .i64 0, .int .i64 0, .int .i64 0] 142)).alloc (.cells #[.int .i64 0, .int .i64 0, .int .i64 0, .int .i64 0, .int .i64 0, .int .i64 0] 142)).setRow W2.heap.size (nums .i64 (padL nd)).toArray) := by
    have hs2 : g2 < W2.heap.size := own_lt HO1.out g2 (by simp [Value.ownBlock])
    have hz := HZ2.out
    refine ⟨(setRow_other _ _ _ _ (by omega)).trans HX0'.out, setRow_heap _ _ _ _ _ _ HGL.out, (setRow_other _ _ _ _ (by omega)).trans HGN.out, own_move HO1'.out fun k e => setRow_other _ _ _ _ ?_, hz, Nat.lt_succ_self _, hs2, ?_, LS.out⟩
    · have : g2 = k := by simpa [Value.ownBlock] using e
      omega
    · unfold padL; rw [List.length_append, List.length_replicate, LN.out]; omega
  have hB4 : Below w.heap.size w (((W2.alloc (.cells #[.int .i64 0, .int .i64 0, .int .i64 0, .int .i64 0, .int .i64 0, .int .i64 0] 142)).alloc (.cells #[.int .i64 0, .int .i64 0, .int .i64 0, .int .i64 0, .int .i64 0, .int .i64 0] 142)).setRow W2.heap.size (nums .i64 (padL nd)).toArray) := below_setRow HB3.out (by have := HZ2.out; have := HB0.out; omega) _
  generalize ((W2.alloc (.cells #[.int .i64 0, .int .i64 0, .int .i64 0, .int .i64 0, .int .i64 0, .int .i64 0] 142)).alloc (.cells #[.int .i64 0, .int .i64 0, .int .i64 0, .int .i64 0, .int .i64 0, .int .i64 0] 142)).setRow W2.heap.size (nums .i64 (padL nd)).toArray = W4 at *
  have HP := Aside0.mk hP
  have HB4 := Aside0.mk hB4
  obtain ⟨bL, HBL⟩ : ∃ bL, Aside0 (W2.heap.size = bL) := ⟨_, ⟨rfl⟩⟩
  rw [HBL.out] at HP ⊢
  clear hP hB4 hpad HGL HGN HSRC HCL HX0' HO0' HO1' HB3 HO0 HO1 HB2 HX0
  go_loopw [14, 31] (fun v14 v31 wr => ∃ (i : Nat) (s : Pst), v14 = .int .i64 s.sum ∧ v31 = .int .i64 i ∧ i ≤ l2.length ∧ Aside0 (Pt b0 bL (bL + 1) #[.int .i64 a0_0, .slice A0_1 l0_1.length c0_1, .slice A0_2 l0_2.length c0_2] g2 q2 l0_1.length s.lf s.sp wr) ∧ Aside0 (Below w.heap.size w wr) ∧ Aside0 (psAll l0_1 (l2.drop i) s = psAll l0_1 l2 ⟨padL nd, sp, 0⟩))
    (fun _ v31 _ => l2.length - (intOf v31).toNat)
  case atStart => exact ⟨0, ⟨padL nd, sp, 0⟩, rfl, rfl, Nat.zero_le _, HP, HB4, ⟨rfl⟩⟩
  case round =>
    clear HP HB4
    obtain ⟨i, s, rfl, rfl, hil, HPr, HBr, HSr⟩ := hrel
    by_cases hlt : i < l2.length
    · have hlt' : (i : Int) < (l2.length : Int) := by omega
      have hi0 : (0 : Int) ≤ (i : Int) := by omega
      obtain ⟨ad, hA, h0, h1, h2⟩ := at_T71 (Kd.C_below M4.out HBr.out) (i : Int) (by omega) (by omega)
      subst hA
      rw [show ((i : Int).toNat) = i from by omega] at h0 h1 h2
      obtain ⟨x, HX⟩ : ∃ x, Aside0 (rd_T71 l2 (i : Int) = x) := ⟨_, ⟨rfl⟩⟩
      rw [HX.out] at h0 h1 h2
      have HDR : Aside0 (l2.drop i = x :: l2.drop (i + 1)) := ⟨by rw [← HX.out, List.drop_eq_getElem_cons hlt]; unfold rd_T71; rw [show ((i : Int).toNat) = i from by omega]; simp [hlt]⟩
      have hk0 := HPr.out.m
      have m0 : wr.cell? ⟨b0, 0, none⟩ = some (.int .i64 a0_0) := by simp [World.cell?, hk0]
      have m1 : wr.cell? ⟨b0, 1, none⟩ = some (.slice A0_1 l0_1.length c0_1) := by simp [World.cell?, hk0]
      have m2 : wr.cell? ⟨b0, 2, none⟩ = some (.slice A0_2 l0_2.length c0_2) := by simp [World.cell?, hk0]
      clear hk0
      go_upto_region 10 with fail
      obtain ⟨f0, f1, f2⟩ := x
      dsimp only at h0 h1 h2 ⊢
      have hb5 : Below wr.heap.size wr (wr.alloc (.cells #[.int .i64 f0, .int .i64 f1, .int .i64 f2] 71)) := (Below.refl _ _).alloc (Nat.le_refl _) _
      have hx5 := blk_new wr (.cells #[.int .i64 f0, .int .i64 f1, .int .i64 f2] 71)
      generalize wr.alloc (.cells #[.int .i64 f0, .int .i64 f1, .int .i64 f2] 71) = W5 at *
      obtain ⟨bk, HBK⟩ : ∃ bk, Aside0 (wr.heap.size = bk) := ⟨_, ⟨rfl⟩⟩
      rw [HBK.out] at hx5 ⊢
      have HB5 := Aside0.mk (HBr.out.trans (hb5.mono HBr.out.size))
      have HP5 := Aside0.mk (HPr.out.stay (Stay.below hb5))
      have HX5 := Aside0.mk hx5
      have K1 := Aside0.mk (Kd.C_below M1.out HB5.out)
      have K2 := Aside0.mk (Kd.C_below M2.out HB5.out)
      have t0 : W5.cell? ⟨bk, 0, none⟩ = some (.int .i64 f0) := by simp [World.cell?, hx5]
      have t1 : W5.cell? ⟨bk, 1, none⟩ = some (.int .i64 f1) := by simp [World.cell?, hx5]
      have t2 : W5.cell? ⟨bk, 2, none⟩ = some (.int .i64 f2) := by simp [World.cell?, hx5]
      have s0 := cell_regrown t0
      have s1 := cell_regrown t1
      have s2 := cell_regrown t2
      have n0 := cell_regrown (pw_cell_below hb5 m0)
      have n1 := cell_regrown (pw_cell_below hb5 m1)
      have n2 := cell_regrown (pw_cell_below hb5 m2)
      clear m0 m1 m2 h0 h1 h2 hb5 hx5 t0 t1 t2
      have HH : Aside0 (∀ (x : Int) (d : Nat) (os : Array Obj), Calls Try.prog 91 #[.agg #[.int .i64 a0_0, .slice A0_1 l0_1.length c0_1, .slice A0_2 l0_2.length c0_2], .int .i64 x] (Go.Sort.grow (redrawn W5 d) os) fun e w' => e = .returned (.bool (hB l0_1.length x)) ∧ ∃ p : Regrown, w' = Go.Sort.grow (redrawn W5 p.d) p.os) := ⟨fun x d os => house_b W5 a0_0 A0_1 c0_1 l0_1 A0_2 c0_2 l0_2 K1.out C1.out K2.out C2.out hn6 x _ rfl d os⟩
      cases e0 : hB l0_1.length f0 with
      | false =>
        have E0 := Aside0.mk e0
        refine wp_region_quiet_below (by kernel_rfl) (by kernel_rfl) ?_
        repeat (first | go_big_quiet_step (first | (go_at_call 91; exact HH.out _ _ _)) | quiet_step (first | (go_at_call 91; exact HH.out _ _ _)))
        refine wpQuiet_nil ?_
        intro _ hw'
        obtain ⟨⟨dq, osq⟩, hw''⟩ := hw'
        subst hw''
        go_wp2_with fail
        go_ret
        exact ⟨by rw [← HRES.out]; exact (ret_no HSr.out HDR.out (by unfold psOk; rw [E0.out]; rfl)).symm ▸ rfl, HB5.out.trans ((below_regrown W5 dq osq).mono HB5.out.size)⟩
      | true =>
        have E0 := Aside0.mk e0
        obtain ⟨p, hp0, hpn⟩ := hB_nat e0
        subst hp0
        cases e1 : hB l0_1.length f1 with
        | false =>
          have E1 := Aside0.mk e1
          refine wp_region_quiet_below (by kernel_rfl) (by kernel_rfl) ?_
          repeat (first | go_big_quiet_step (first | (go_at_call 91; exact HH.out _ _ _)) | quiet_step (first | (go_at_call 91; exact HH.out _ _ _)))
          refine wpQuiet_nil ?_
          intro _ hw'
          obtain ⟨⟨dq, osq⟩, hw''⟩ := hw'
          subst hw''
          go_wp2_with fail
          go_ret
          exact ⟨by rw [← HRES.out]; exact (ret_no HSr.out HDR.out (by unfold psOk; rw [E0.out, E1.out]; rfl)).symm ▸ rfl, HB5.out.trans ((below_regrown W5 dq osq).mono HB5.out.size)⟩
        | true =>
          have E1 := Aside0.mk e1
          obtain ⟨q, hq0, hqn⟩ := hB_nat e1
          subst hq0
          by_cases e2 : p = q
          · subst e2
            refine wp_region_quiet_below (by kernel_rfl) (by kernel_rfl) ?_
            repeat (first | go_big_quiet_step (first | (go_at_call 91; exact HH.out _ _ _)) | quiet_step (first | (go_at_call 91; exact HH.out _ _ _)))
            refine wpQuiet_nil ?_
            intro _ hw'
            obtain ⟨⟨dq, osq⟩, hw''⟩ := hw'
            subst hw''
            go_wp2_with fail
            go_ret
            exact ⟨by rw [← HRES.out]; exact (ret_no HSr.out HDR.out (by unfold psOk; simp)).symm ▸ rfl, HB5.out.trans ((below_regrown W5 dq osq).mono HB5.out.size)⟩
          · have e2' : ((p : Int) == (q : Int)) = false := beq_eq_false_iff_ne.2 (by omega)
            have hsp : W5.cell? ⟨g2, p, none⟩ = some (.int .i64 (s.sp.getD p 0)) := by
              rw [HP5.out.rs.cellAt p (by omega)]; exact nums_getD _ _ (by rw [HP5.out.ls]; exact hpn)
            obtain ⟨z, HZ⟩ : ∃ z, Aside0 (s.sp.getD p 0 = z) := ⟨_, ⟨rfl⟩⟩
            rw [HZ.out] at hsp
            have s3 := cell_regrown hsp
            have hpn' : (p : Int) < (l0_1.length : Int) := by omega
            have hp0' : (0 : Int) ≤ (p : Int) := by omega
            clear hsp
            by_cases e3 : 1 ≤ f2 ∧ f2 ≤ z
            · have E3 : Aside0 (corner_within.f f2 1 z = some true) := ⟨within_yes e3.1 e3.2⟩
              have HE3 := Aside0.mk e3
              clear e3
              refine wp_region_quiet_below (by kernel_rfl) (by kernel_rfl) ?_
              repeat (first | go_big_quiet_step (first | (go_at_call 91; exact HH.out _ _ _) | (go_at_call 70; exact within_b W5 _ _ _ _ E3.out _ _)) | quiet_step (first | (go_at_call 91; exact HH.out _ _ _) | (go_at_call 70; exact within_b W5 _ _ _ _ E3.out _ _)))
              refine wpQuiet_nil ?_
              intro _ hw'
              obtain ⟨⟨dq, osq⟩, hw''⟩ := hw'
              subst hw''
              go_wp2_with fail
              have hb6 := below_regrown W5 dq osq
              generalize Go.Sort.grow (redrawn W5 dq) osq = W6 at *
              have HB6 := Aside0.mk (HB5.out.trans (hb6.mono HB5.out.size))
              have HP6 := Aside0.mk (HP5.out.stay (Stay.below hb6))
              have HX6 := Aside0.mk (blk_below hb6 HX5.out)
              have HGK : Aside0 (g2 < bk ∧ bL < bk ∧ bL + 1 < bk) := ⟨by have h1 := own_lt HPr.out.rs g2 (by simp [Value.ownBlock]); have h2 := blk_lt HPr.out.L; have h3 := blk_lt HPr.out.N; have := HBK.out; exact ⟨by omega, by omega, by omega⟩⟩
              clear s0 s1 s2 n0 n1 n2 s3 hb6 HH
              have t0 := cell_obj HX6.out 0
              have t2 := cell_obj HX6.out 2
              have hsp : W6.cell? ⟨g2, p, none⟩ = some (.int .i64 (s.sp.getD p 0)) := by
                rw [HP6.out.rs.cellAt p (by omega)]; exact nums_getD _ _ (by rw [HP6.out.ls]; exact hpn)
              rw [HZ.out] at hsp
              have hsf := HP6.out.rs.frozenAt p
              simp at t0 t2
              go_still_tail 8, (by kernel_rfl)
              obtain ⟨W7, HW7⟩ : ∃ W7, Aside0 (W6.drew = W7) := ⟨_, ⟨rfl⟩⟩
              rw [show ({ heap := W6.heap, tape := W6.tape, drawn := W6.drawn + 1, os := W6.os, output := W6.output } : World) = W7 from HW7.out]
              have hb7 : Below W6.heap.size W6 W7 := by rw [← HW7.out]; exact below_drew (Below.refl _ _)
              have HP7 := Aside0.mk ((HP6.out.stay (Stay.below hb7)).setS p (wrap64 (z - f2)))
              have HB7 := Aside0.mk ((HB6.out.trans (hb7.mono HB6.out.size)).setCell (p := ⟨g2, p, none⟩) (by have := HP6.out.g2b; have := HB0.out; show w.heap.size ≤ g2; omega) (.int .i64 (wrap64 (z - f2))))
              have HX7 := Aside0.mk ((Below.heap_setCell W7 ⟨g2, p, none⟩ (.int .i64 (wrap64 (z - f2))) bk (by have := HGK.out; show bk ≠ g2; omega)).trans (blk_below hb7 HX6.out))
              have hsp := pw_cell_below hb7 hsp
              have hsf : W7.frozen? ⟨g2, p, none⟩ = false := by rw [← HW7.out]; exact hsf
              clear t0 t2
              go_wp2_with fail
              obtain ⟨W8, HW8⟩ : ∃ W8, Aside0 (W7.setCell ⟨g2, p, none⟩ (.int .i64 (wrap64 (z - f2))) = W8) := ⟨_, ⟨rfl⟩⟩
              rw [HW8.out] at HP7 HB7 HX7 ⊢
              clear hsp hsf hb7 HP6 HB6 HX6
              have t1 := cell_obj HX7.out 1
              have t2 := cell_obj HX7.out 2
              simp at t1 t2
              have hq6 : (q : Int) < 6 := by omega
              have hq0' : (0 : Int) ≤ (q : Int) := by omega
              have hlf : W8.cell? ⟨bL, q, none⟩ = some (.int .i64 (s.lf.getD q 0)) := by
                rw [cell_obj HP7.out.L q, List.getElem?_toArray]; exact nums_getD _ _ (by rw [HP7.out.ll]; omega)
              obtain ⟨y, HY⟩ : ∃ y, Aside0 (s.lf.getD q 0 = y) := ⟨_, ⟨rfl⟩⟩
              rw [HY.out] at hlf
              have hff := frozen_obj HP7.out.L q
              go_still_tail 7, (by kernel_rfl)
              obtain ⟨W9, HW9⟩ : ∃ W9, Aside0 (W8.drew = W9) := ⟨_, ⟨rfl⟩⟩
              rw [show ({ heap := W8.heap, tape := W8.tape, drawn := W8.drawn + 1, os := W8.os, output := W8.output } : World) = W9 from HW9.out]
              have hb9 : Below W8.heap.size W8 W9 := by rw [← HW9.out]; exact below_drew (Below.refl _ _)
              have HP9 := Aside0.mk ((HP7.out.stay (Stay.below hb9)).setL q (wrap64 (y - f2)))
              have HB9 := Aside0.mk ((HB7.out.trans (hb9.mono HB7.out.size)).setCell (p := ⟨bL, q, none⟩) (by have := HP7.out.o1; have := HB0.out; show w.heap.size ≤ bL; omega) (.int .i64 (wrap64 (y - f2))))
              have HX9 := Aside0.mk ((Below.heap_setCell W9 ⟨bL, q, none⟩ (.int .i64 (wrap64 (y - f2))) bk (by have := HGK.out; show bk ≠ bL; omega)).trans (blk_below hb9 HX7.out))
              have hlf := pw_cell_below hb9 hlf
              have hff : W9.frozen? ⟨bL, q, none⟩ = false := by rw [← HW9.out]; exact hff
              clear t1 t2
              go_wp2_with fail
              obtain ⟨W10, HW10⟩ : ∃ W10, Aside0 (W9.setCell ⟨bL, q, none⟩ (.int .i64 (wrap64 (y - f2))) = W10) := ⟨_, ⟨rfl⟩⟩
              rw [HW10.out] at HP9 HB9 HX9 ⊢
              clear hlf hff hb9 HP7 HB7 HX7
              have t0 := cell_obj HX9.out 0
              have t2 := cell_obj HX9.out 2
              simp at t0 t2
              have hu73 := Try.underlying73
              have m1 : W10.cell? ⟨b0, 1, none⟩ = some (.slice A0_1 l0_1.length c0_1) := by simp [World.cell?, HP9.out.m]
              obtain ⟨ad', hA, -, -, -, k3⟩ := at_T73 (Kd.C_below M1.out HB9.out) (p : Int) (by omega) (by omega)
              subst hA
              rw [show ((p : Int).toNat) = p from by omega] at k3
              obtain ⟨ak, HAK⟩ : ∃ ak, Aside0 ((rd_T73 l0_1 (p : Int)).f2 = ak) := ⟨_, ⟨rfl⟩⟩
              rw [HAK.out] at k3
              go_quiet (fail)
              go_wp2_with fail
              have hb10 : Below W10.heap.size W10 (W10.drewN nq) := pw_below_drewN (Below.refl _ _) nq
              go_roundw
              case rel =>
                refine ⟨i + 1, psStep l0_1 s ⟨(p : Int), (q : Int), f2⟩, ?_, by go_num, hlt, ⟨?_⟩, ⟨HB9.out.trans (hb10.mono HB9.out.size)⟩, ⟨?_⟩⟩
                · unfold psStep; rw [HAK.out]
                · have := HP9.out.stay (Stay.below hb10)
                  unfold psStep
                  dsimp only
                  rw [show ((q : Int).toNat) = q from by omega, show ((p : Int).toNat) = p from by omega, HY.out, HZ.out]
                  exact this
                · rw [← HSr.out, HDR.out, psAll, if_pos]
                  unfold psOk
                  dsimp only
                  rw [E0.out, E1.out, e2', show ((p : Int).toNat) = p from by omega, HZ.out, decide_eq_true HE3.out]
                  rfl
              case measure => simp [intOf]; omega
            · have E3 : Aside0 (corner_within.f f2 1 z = some false) := ⟨within_no e3⟩
              have HE3 := Aside0.mk e3
              clear e3
              refine wp_region_quiet_below (by kernel_rfl) (by kernel_rfl) ?_
              repeat (first | go_big_quiet_step (first | (go_at_call 91; exact HH.out _ _ _) | (go_at_call 70; exact within_b W5 _ _ _ _ E3.out _ _)) | quiet_step (first | (go_at_call 91; exact HH.out _ _ _) | (go_at_call 70; exact within_b W5 _ _ _ _ E3.out _ _)))
              refine wpQuiet_nil ?_
              intro _ hw'
              obtain ⟨⟨dq, osq⟩, hw''⟩ := hw'
              subst hw''
              go_wp2_with fail
              go_ret
              exact ⟨by rw [← HRES.out]; exact (ret_no HSr.out HDR.out (by unfold psOk; rw [show ((p : Int).toNat) = p from by omega, HZ.out, decide_eq_false HE3.out]; simp)).symm ▸ rfl, HB5.out.trans ((below_regrown W5 dq osq).mono HB5.out.size)⟩
    · obtain rfl : i = l2.length := by omega
      have hps := HSr.out
      rw [List.drop_length, psAll] at hps
      have hr : r = (s.lf.all (fun x => x == 0) && decide (s.sum ≤ a3)) := by rw [← HRES.out]; unfold psRes; rw [← hps]
      have HR := Aside0.mk hr
      obtain ⟨⟨y0, y1, y2, y3, y4, y5⟩, hlf⟩ : ∃ y : Int × Int × Int × Int × Int × Int, s.lf = [y.1, y.2.1, y.2.2.1, y.2.2.2.1, y.2.2.2.2.1, y.2.2.2.2.2] := six_list HPr.out.ll
      dsimp only at hlf
      have hL := HPr.out.L
      have hN := HPr.out.N
      rw [hlf] at hL
      have HL := Aside0.mk hL
      have HN0 := Aside0.mk hN
      have HLF := Aside0.mk hlf
      clear hps hr hlf hL hN
      have cl0 : wr.cell? ⟨bL, 0, none⟩ = some (.int .i64 y0) := by rw [cell_obj HL.out 0]; rfl
      have cn0 : wr.cell? ⟨bL + 1, 0, none⟩ = some (.int .i64 0) := by rw [cell_obj HN0.out 0]; rfl
      have cl1 : wr.cell? ⟨bL, 1, none⟩ = some (.int .i64 y1) := by rw [cell_obj HL.out 1]; rfl
      have cn1 : wr.cell? ⟨bL + 1, 1, none⟩ = some (.int .i64 0) := by rw [cell_obj HN0.out 1]; rfl
      have cl2 : wr.cell? ⟨bL, 2, none⟩ = some (.int .i64 y2) := by rw [cell_obj HL.out 2]; rfl
      have cn2 : wr.cell? ⟨bL + 1, 2, none⟩ = some (.int .i64 0) := by rw [cell_obj HN0.out 2]; rfl
      have cl3 : wr.cell? ⟨bL, 3, none⟩ = some (.int .i64 y3) := by rw [cell_obj HL.out 3]; rfl
      have cn3 : wr.cell? ⟨bL + 1, 3, none⟩ = some (.int .i64 0) := by rw [cell_obj HN0.out 3]; rfl
      have cl4 : wr.cell? ⟨bL, 4, none⟩ = some (.int .i64 y4) := by rw [cell_obj HL.out 4]; rfl
      have cn4 : wr.cell? ⟨bL + 1, 4, none⟩ = some (.int .i64 0) := by rw [cell_obj HN0.out 4]; rfl
      have cl5 : wr.cell? ⟨bL, 5, none⟩ = some (.int .i64 y5) := by rw [cell_obj HL.out 5]; rfl
      have cn5 : wr.cell? ⟨bL + 1, 5, none⟩ = some (.int .i64 0) := by rw [cell_obj HN0.out 5]; rfl
      obtain ⟨B, HBq⟩ : ∃ B, Aside0 ((y0 == 0 && (y1 == 0 && (y2 == 0 && (y3 == 0 && (y4 == 0 && y5 == 0))))) = B) := ⟨_, ⟨rfl⟩⟩
      have heq : ∀ w, (Op.equalIn 10000 142 (.agg #[.int .i64 y0, .int .i64 y1, .int .i64 y2, .int .i64 y3, .int .i64 y4, .int .i64 y5]) (.agg #[.int .i64 0, .int .i64 0, .int .i64 0, .int .i64 0, .int .i64 0, .int .i64 0])).run Try.prog w = .ok B w := fun w => by rw [← HBq.out]; exact eq142 9998 y0 y1 y2 y3 y4 y5 w
      have HA : Aside0 (s.lf.all (fun x => x == 0) = B) := ⟨by rw [HLF.out, ← HBq.out]; simp⟩
      cases B with
      | false =>
        go_wp2_with fail
        go_ret
        exact ⟨by rw [HR.out, HA.out]; rfl, HBr.out⟩
      | true =>
        by_cases hle : s.sum ≤ a3
        · go_wp2_with fail
          go_ret
          exact ⟨by rw [HR.out, HA.out]; simp [hle], HBr.out⟩
        · go_wp2_with fail
          go_ret
          exact ⟨by rw [HR.out, HA.out]; simp [hle], HBr.out⟩
set_option maxHeartbeats 1000000 in
set_option maxRecDepth 100000 in
theorem prove_err (a0_0 : Int) (A0_1 : Option Addr) (c0_1 : Nat) (l0_1 : List (S73)) (A0_2 : Option Addr) (c0_2 : Nat) (l0_2 : List (S75)) (A1 : Option Addr) (c1 : Nat) (l1 : List Int) (A2 : Option Addr) (c2 : Nat) (l2 : List (S71)) (a3 : Int) (er : Int) (w : World) (hr0_1 : Kd.C k73 w A0_1 l0_1.length l0_1) (hc0_1 : l0_1.length ≤ c0_1) (hr0_2 : Kd.C k75 w A0_2 l0_2.length l0_2) (hc0_2 : l0_2.length ≤ c0_2) (hr1 : Kd.C (Kd.int .i64) w A1 l1.length l1) (hc1 : l1.length ≤ c1) (hn : corner_Needs.f 16 a0_0 l0_1 l0_2 l1 = some ([], [], er)) (her : er ≠ 0) :
    Calls Try.prog 44 #[.agg #[.int .i64 a0_0, .slice A0_1 l0_1.length c0_1, .slice A0_2 l0_2.length c0_2], .slice A1 l1.length c1, .slice A2 l2.length c2, .int .i64 a3] w fun e w' => e = .returned (.bool false) ∧ Below w.heap.size w w' := by
  have hu26 := Try.underlying26
  have hu35 := Try.underlying35
  have hne : (er == 0) = false := beq_eq_false_iff_ne.2 her
  have HN := Aside0.mk hn
  have M1 := Aside0.mk hr0_1
  have M2 := Aside0.mk hr0_2
  have M3 := Aside0.mk hr1
  clear hn her hr0_1 hr0_2 hr1
  go_enter Try.func44, Try.ntmps44
  go_wp2_with fail
  have hb1 : Below w.heap.size w (w.alloc (.cells #[.int .i64 a0_0, .slice A0_1 l0_1.length c0_1, .slice A0_2 l0_2.length c0_2] 35)) := (Below.refl _ _).alloc (Nat.le_refl _) _
  refine (corner_Needs.calls 16 a0_0 A0_1 c0_1 l0_1 A0_2 c0_2 l0_2 A1 c1 l1 [] [] er _ (Kd.C_below M1.out hb1) hc0_1 (Kd.C_below M2.out hb1) hc0_2 (Kd.C_below M3.out hb1) hc1 HN.out).mono ?_
  rintro e W2 ⟨v0, v1, rfl, hr0, hr1, hb2⟩
  obtain ⟨A8, c8, rfl⟩ := Kd.R_slice hr0
  obtain ⟨A9, c9, rfl⟩ := Kd.R_slice hr1
  have HB2 := Aside0.mk (hb1.trans (hb2.mono hb1.size))
  clear hr0 hr1 hb1 hb2
  go_wp2_with fail
  go_ret
  exact ⟨rfl, HB2.out⟩
theorem corner_ProveSettled.calls (a0_0 : Int) (A0_1 : Option Addr) (c0_1 : Nat) (l0_1 : List (S73)) (A0_2 : Option Addr) (c0_2 : Nat) (l0_2 : List (S75)) (A1 : Option Addr) (c1 : Nat) (l1 : List Int) (A2 : Option Addr) (c2 : Nat) (l2 : List (S71)) (a3 : Int) (r : Bool) (w : World) (hr0_1 : Kd.C k73 w A0_1 l0_1.length l0_1) (hc0_1 : l0_1.length ≤ c0_1) (hr0_2 : Kd.C k75 w A0_2 l0_2.length l0_2) (hc0_2 : l0_2.length ≤ c0_2) (hr1 : Kd.C (Kd.int .i64) w A1 l1.length l1) (hc1 : l1.length ≤ c1) (hr2 : Kd.C k71 w A2 l2.length l2) (hc2 : l2.length ≤ c2) (h : corner_ProveSettled.f a0_0 l0_1 l0_2 l1 l2 a3 = some r) :
    Calls Try.prog 44 #[.agg #[.int .i64 a0_0, .slice A0_1 l0_1.length c0_1, .slice A0_2 l0_2.length c0_2], .slice A1 l1.length c1, .slice A2 l2.length c2, .int .i64 a3] w fun e w' => e = .returned (.bool r) ∧ Below w.heap.size w w' := by
  unfold corner_ProveSettled.f at h
  split at h
  case isFalse => cases h
  rename_i hl2
  obtain ⟨⟨nd, sp, er⟩, hn, h⟩ := Option.bind_eq_some_iff.1 h
  injection h with h
  by_cases he : er = 0
  · subst he
    rw [if_pos rfl] at h
    dsimp only at h
    subst h
    exact prove_walk a0_0 A0_1 c0_1 l0_1 A0_2 c0_2 l0_2 A1 c1 l1 A2 c2 l2 a3 nd sp w hr0_1 hc0_1 hr0_2 hc0_2 hr1 hc1 hr2 hc2 hl2 hn
  · rw [if_neg he] at h
    subst h
    obtain ⟨rfl, rfl⟩ := needs_err hn he
    exact prove_err a0_0 A0_1 c0_1 l0_1 A0_2 c0_2 l0_2 A1 c1 l1 A2 c2 l2 a3 er w hr0_1 hc0_1 hr0_2 hc0_2 hr1 hc1 hn he
end Go.Proofs.Ytgjifkegfbpjkaa.Q
end
