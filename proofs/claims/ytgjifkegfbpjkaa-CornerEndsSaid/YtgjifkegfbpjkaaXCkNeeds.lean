/- Walks: the positions by contracts, and the needs and spare shares, of package corner. -/
import Derived.Test.YtgjifkegfbpjkaaXCkMarket
import Derived.Test.YtgjifkegfbpjkaaXSmall
import Derived.Test.YtgjifkegfbpjkaaXQf67
import Derived.StillTailTactics
section
namespace Go.Proofs.Ytgjifkegfbpjkaa.Q
set_option linter.unusedVariables false
open Go.RowKit Go.Proofs.YtgjifkegfbpjkaaW.PrintWords Go.Proofs.YtgjifkegfbpjkaaW.PrintLast Go.Proofs.YtgjifkegfbpjkaaW.PrintMore
def ow : List S75 → Int → Int
  | [], _ => 0
  | c :: cs, j => ow cs j + ((if c.f1 = j then c.f2 else 0) - (if c.f0 = j then c.f2 else 0))
theorem ow_snoc (cs : List S75) (c : S75) (j : Int) : ow (cs ++ [c]) j = ow cs j + ((if c.f1 = j then c.f2 else 0) - (if c.f0 = j then c.f2 else 0)) := by
  induction cs with
  | nil => simp [ow]
  | cons d cs ih => rw [List.cons_append, ow, ih, ow]; omega
theorem ow_bound (cs : List S75) (j : Int) (h : ∀ c ∈ cs, 0 ≤ c.f2 ∧ c.f2 ≤ 200) : -(200 * (cs.length : Int)) ≤ ow cs j ∧ ow cs j ≤ 200 * (cs.length : Int) := by
  induction cs with
  | nil => simp [ow]
  | cons d cs ih =>
    have h1 := ih (fun c hc => h c (List.mem_cons_of_mem _ hc))
    have h2 := h d List.mem_cons_self
    rw [ow, List.length_cons]
    split <;> split <;> omega
theorem rd_T75_eq (l : List S75) (i : Int) (h0 : 0 ≤ i) (h1 : i < (l.length : Int)) : rd_T75 l i = l[i.toNat]'(by omega) := by
  unfold rd_T75
  rw [List.getD_eq_getElem?_getD, List.getElem?_eq_getElem (by omega), Option.getD_some]
theorem ow_step (l : List S75) (i : Int) (j : Int) (h0 : 0 ≤ i) (h1 : i < (l.length : Int)) :
    ow (l.take (i + 1).toNat) j = ow (l.take i.toNat) j + ((if (rd_T75 l i).f1 = j then (rd_T75 l i).f2 else 0) - (if (rd_T75 l i).f0 = j then (rd_T75 l i).f2 else 0)) := by
  rw [rd_T75_eq l i h0 h1, show (i + 1).toNat = i.toNat + 1 from by omega, List.take_succ_eq_append_getElem (by omega), ow_snoc]
def okCs (cs : List S75) : Prop := cs.length ≤ 8 ∧ ∀ c ∈ cs, 0 ≤ c.f0 ∧ c.f0 < 6 ∧ 0 ≤ c.f1 ∧ c.f1 < 6 ∧ c.f0 ≠ c.f1 ∧ 1 ≤ c.f2 ∧ c.f2 ≤ 200
def Ow (g : Nat) (cs : List S75) (w : World) : Prop := ∀ j : Nat, j < 6 → w.cell? ⟨g, j, none⟩ = some (.int .i64 (ow cs j)) ∧ w.frozen? ⟨g, j, none⟩ = false
theorem Ow.next {g : Nat} {l : List S75} {wr : World} (h : Ow g l wr) (x : S75) (q1 : 0 ≤ x.f0) (q2 : x.f0 < 6) (q3 : 0 ≤ x.f1) (q4 : x.f1 < 6) (q5 : x.f0 ≠ x.f1) :
    Ow g (l ++ [x]) ((wr.setCell ⟨g, x.f0.toNat, none⟩ (.int .i64 (ow l x.f0 - x.f2))).setCell ⟨g, x.f1.toNat, none⟩ (.int .i64 (ow l x.f1 + x.f2))) := by
  intro j hj
  have hh := h j hj
  refine ⟨?_, by rw [World.frozen?_setCell, World.frozen?_setCell]; exact hh.2⟩
  rw [ow_snoc]
  by_cases h1 : j = x.f1.toNat
  · subst h1
    rw [World.cell?_setCell_same' _ _ _ (by rw [World.cell?_setCell_other _ _ _ _ (by intro e; injection e; omega), hh.1]; rfl)]
    rw [show ((x.f1.toNat : Nat) : Int) = x.f1 from by omega, if_pos rfl, if_neg q5]; simp
  · rw [World.cell?_setCell_other _ _ _ _ (by intro e; injection e; omega)]
    by_cases h0 : j = x.f0.toNat
    · subst h0
      rw [World.cell?_setCell_same' _ _ _ (by rw [hh.1]; rfl)]
      rw [show ((x.f0.toNat : Nat) : Int) = x.f0 from by omega, if_neg (Ne.symm q5), if_pos rfl]; congr 2; omega
    · rw [World.cell?_setCell_other _ _ _ _ (by intro e; injection e; omega), hh.1, if_neg (by omega), if_neg (by omega)]; simp
theorem setCell_id {w : World} {a : Addr} {v : Value} (h : w.cell? a = some v) (b : Addr) : (w.setCell a v).cell? b = w.cell? b := by
  by_cases e : a = b
  · subst e; rw [World.cell?_setCell_same' _ _ _ (by rw [h]; rfl), h]
  · exact World.cell?_setCell_other _ _ _ _ e
def Six (W : World) (g : Nat) (p0 p1 p2 p3 p4 p5 : Int) : Prop := W.cell? ⟨g, 0, none⟩ = some (.int .i64 p0) ∧ W.cell? ⟨g, 1, none⟩ = some (.int .i64 p1) ∧ W.cell? ⟨g, 2, none⟩ = some (.int .i64 p2) ∧ W.cell? ⟨g, 3, none⟩ = some (.int .i64 p3) ∧ W.cell? ⟨g, 4, none⟩ = some (.int .i64 p4) ∧ W.cell? ⟨g, 5, none⟩ = some (.int .i64 p5)
def six (W : World) (g : Nat) (p0 p1 p2 p3 p4 p5 : Int) : World := (((((W.setCell ⟨g, 0, none⟩ (.int .i64 p0)).setCell ⟨g, 1, none⟩ (.int .i64 p1)).setCell ⟨g, 2, none⟩ (.int .i64 p2)).setCell ⟨g, 3, none⟩ (.int .i64 p3)).setCell ⟨g, 4, none⟩ (.int .i64 p4)).setCell ⟨g, 5, none⟩ (.int .i64 p5)
theorem six_cell {W : World} {g : Nat} {p0 p1 p2 p3 p4 p5 : Int} (h : Six W g p0 p1 p2 p3 p4 p5) (b : Addr) : (six W g p0 p1 p2 p3 p4 p5).cell? b = W.cell? b := by
  obtain ⟨h0, h1, h2, h3, h4, h5⟩ := h
  have k1 := (setCell_id h0 ⟨g, 1, none⟩).trans h1
  have k2 := (setCell_id k1 ⟨g, 2, none⟩).trans ((setCell_id h0 ⟨g, 2, none⟩).trans h2)
  have k3 := (setCell_id k2 ⟨g, 3, none⟩).trans ((setCell_id k1 ⟨g, 3, none⟩).trans ((setCell_id h0 ⟨g, 3, none⟩).trans h3))
  have k4 := (setCell_id k3 ⟨g, 4, none⟩).trans ((setCell_id k2 ⟨g, 4, none⟩).trans ((setCell_id k1 ⟨g, 4, none⟩).trans ((setCell_id h0 ⟨g, 4, none⟩).trans h4)))
  have k5 := (setCell_id k4 ⟨g, 5, none⟩).trans ((setCell_id k3 ⟨g, 5, none⟩).trans ((setCell_id k2 ⟨g, 5, none⟩).trans ((setCell_id k1 ⟨g, 5, none⟩).trans ((setCell_id h0 ⟨g, 5, none⟩).trans h5))))
  unfold six
  rw [setCell_id k5, setCell_id k4, setCell_id k3, setCell_id k2, setCell_id k1, setCell_id h0]
theorem Six.six {W : World} {g : Nat} {p0 p1 p2 p3 p4 p5 : Int} (h : Six W g p0 p1 p2 p3 p4 p5) : Six (six W g p0 p1 p2 p3 p4 p5) g p0 p1 p2 p3 p4 p5 := by
  unfold Six
  rw [six_cell h, six_cell h, six_cell h, six_cell h, six_cell h, six_cell h]
  exact h
theorem res104 {W : World} {g : Nat} {p0 p1 p2 p3 p4 p5 : Int} (h : Six W g p0 p1 p2 p3 p4 p5) (t : Array Value) (ht : t[2]? = some (.pointer (some ⟨g, 0, none⟩))) :
    (results Try.f104 t).run Try.prog W = .ok (.agg #[.int .i64 p0, .int .i64 p1, .int .i64 p2, .int .i64 p3, .int .i64 p4, .int .i64 p5]) W := by
  obtain ⟨h0, h1, h2, h3, h4, h5⟩ := h
  simp [results, Try.results104, go_sem, ht, h0, h1, h2, h3, h4, h5]
set_option maxHeartbeats 1000000 in
set_option maxRecDepth 100000 in
theorem owed_calls (e : Int) (A1 : Option Addr) (c1 : Nat) (hs : List S73) (A2 : Option Addr) (c2 : Nat) (cs : List S75) (w : World) (m2 : Kd.C k75 w A2 cs.length cs) (hok : okCs cs) :
    Calls Try.prog 104 #[.agg #[.int .i64 e, .slice A1 hs.length c1, .slice A2 cs.length c2]] w fun e w' => e = .returned (.agg #[.int .i64 (ow cs 0), .int .i64 (ow cs 1), .int .i64 (ow cs 2), .int .i64 (ow cs 3), .int .i64 (ow cs 4), .int .i64 (ow cs 5)]) ∧ Below w.heap.size w w' := by
  have hu35 := Try.underlying35
  have hu75 := Try.underlying75
  have hu142 := Try.underlying142
  have hm : cs.length ≤ 9223372036854775807 := m2.2.1
  have M2 := Aside0.mk m2
  have HOK := Aside0.mk hok
  clear m2 hok
  go_enter Try.func104, Try.ntmps104
  go_wp2_with fail
  go_loopw [8] (fun v8 wr => ∃ i : Int, v8 = .int .i64 i ∧ 0 ≤ i ∧ i ≤ (cs.length : Int) ∧ Aside0 (Ow (w.heap.size + 1) (cs.take i.toNat) wr) ∧ Aside0 (Below w.heap.size w wr) ∧ w.heap.size + 1 < wr.heap.size) (fun v8 _ => cs.length - (intOf v8).toNat)
  case atStart =>
    refine ⟨0, rfl, by omega, by omega, ⟨?_⟩, ⟨((Below.refl w.heap.size w).alloc (Nat.le_refl _) _).alloc (by simp) _⟩, by simp⟩
    intro j hj
    match j, hj with
    | 0, _ => exact ⟨by simp [ow], by simp⟩
    | 1, _ => exact ⟨by simp [ow], by simp⟩
    | 2, _ => exact ⟨by simp [ow], by simp⟩
    | 3, _ => exact ⟨by simp [ow], by simp⟩
    | 4, _ => exact ⟨by simp [ow], by simp⟩
    | 5, _ => exact ⟨by simp [ow], by simp⟩
  case round =>
    obtain ⟨i, rfl, hi0, hil, HO, HB, hsz⟩ := hrel
    by_cases hlt : i < (cs.length : Int)
    · obtain ⟨ad, rfl, h0, h1, h2⟩ := at_T75 (Kd.C_below M2.out HB.out) i hi0 hlt
      have hc := HOK.out.2 _ (List.getElem_mem (l := cs) (n := i.toNat) (by omega))
      rw [← rd_T75_eq cs i hi0 hlt] at hc
      generalize hx : rd_T75 cs i = x at *
      have HX := Aside0.mk hx
      clear hx
      obtain ⟨q1, q2, q3, q4, q5, q6, q7⟩ := hc
      obtain ⟨o0, HO0⟩ : ∃ o, Aside0 (o = ow (cs.take i.toNat) x.f0) := ⟨_, ⟨rfl⟩⟩
      obtain ⟨o1, HO1⟩ : ∃ o, Aside0 (o = ow (cs.take i.toNat) x.f1) := ⟨_, ⟨rfl⟩⟩
      have hbd : ∀ j, -1600 ≤ ow (cs.take i.toNat) j ∧ ow (cs.take i.toNat) j ≤ 1600 := by
        intro j
        have hl : (cs.take i.toNat).length ≤ 8 := Nat.le_trans (List.length_take_le _ _) (by have := HOK.out.1; simp; omega)
        have := ow_bound (cs.take i.toNat) j (fun c hc => by have := HOK.out.2 c (List.mem_of_mem_take hc); omega)
        omega
      have b0 : -1600 ≤ o0 ∧ o0 ≤ 1600 := by rw [HO0.out]; exact hbd _
      have b1 : -1600 ≤ o1 ∧ o1 ≤ 1600 := by rw [HO1.out]; exact hbd _
      obtain ⟨b0, b0'⟩ := b0
      obtain ⟨b1, b1'⟩ := b1
      have k0 := (HO.out x.f0.toNat (by omega)).1
      have f0 := (HO.out x.f0.toNat (by omega)).2
      have k1 := (HO.out x.f1.toNat (by omega)).1
      have f1 := (HO.out x.f1.toNat (by omega)).2
      rw [show ((x.f0.toNat : Nat) : Int) = x.f0 from by omega, ← HO0.out] at k0
      rw [show ((x.f1.toNat : Nat) : Int) = x.f1 from by omega, ← HO1.out] at k1
      clear hbd
      have q5' : ¬ x.f1.toNat = x.f0.toNat := by omega
      clear q5
      go_wp2_with fail
      go_region
      go_wp2_with fail
      go_region
      go_wp2_with fail
      go_roundw
      case rel =>
        refine ⟨i + 1, rfl, by omega, by omega, ⟨?_⟩, ⟨?_⟩, by simp; omega⟩
        · have hn := HO.out.next x q1 q2 q3 q4 (by omega)
          rw [← HO0.out, ← HO1.out] at hn
          have ht : cs.take (i + 1).toNat = cs.take i.toNat ++ [x] := by
            rw [show (i + 1).toNat = i.toNat + 1 from by omega, List.take_succ_eq_append_getElem (by omega), ← rd_T75_eq cs i hi0 hlt, HX.out]
          rw [ht]
          intro j hj
          have hj2 := hn j hj
          refine ⟨?_, ?_⟩
          · show (World.alloc _ _).cell? _ = _
            rw [World.cell?_alloc_past _ _ _ (by simp; omega)]; exact hj2.1
          · show (World.alloc _ _).frozen? _ = _
            rw [World.frozen?_alloc_past _ _ _ (by simp; omega)]; exact hj2.2
        · exact ((((HB.out.setCell (p := ⟨w.heap.size + 1, x.f0.toNat, none⟩) (by simp) _).setCell (p := ⟨w.heap.size + 1, x.f1.toNat, none⟩) (by simp) _).alloc (by simp; omega) _).drew).drew
      case measure => simp [intOf]; omega
    · obtain rfl : i = cs.length := by omega
      have hO := HO.out
      rw [show ((cs.length : Int).toNat) = cs.length from by omega, List.take_length] at hO
      have e0 := (hO 0 (by omega)).1
      have e1 := (hO 1 (by omega)).1
      have e2 := (hO 2 (by omega)).1
      have e3 := (hO 3 (by omega)).1
      have e4 := (hO 4 (by omega)).1
      have e5 := (hO 5 (by omega)).1
      have f0 := (hO 0 (by omega)).2
      have f1 := (hO 1 (by omega)).2
      have f2 := (hO 2 (by omega)).2
      have f3 := (hO 3 (by omega)).2
      have f4 := (hO 4 (by omega)).2
      have f5 := (hO 5 (by omega)).2
      clear hO
      generalize hg0 : ow cs ((0 : Nat) : Int) = p0 at *
      generalize hg1 : ow cs ((1 : Nat) : Int) = p1 at *
      generalize hg2 : ow cs ((2 : Nat) : Int) = p2 at *
      generalize hg3 : ow cs ((3 : Nat) : Int) = p3 at *
      generalize hg4 : ow cs ((4 : Nat) : Int) = p4 at *
      generalize hg5 : ow cs ((5 : Nat) : Int) = p5 at *
      have HS := Aside0.mk (show Six wr (w.heap.size + 1) p0 p1 p2 p3 p4 p5 from ⟨e0, e1, e2, e3, e4, e5⟩)
      go_wp2_with fail
      refine bodyPost_ret (w := six wr (w.heap.size + 1) p0 p1 p2 p3 p4 p5) (v := .agg #[.int .i64 p0, .int .i64 p1, .int .i64 p2, .int .i64 p3, .int .i64 p4, .int .i64 p5]) (res104 HS.out.six _ rfl) rfl ⟨?_, ?_⟩
      · rw [← hg0, ← hg1, ← hg2, ← hg3, ← hg4, ← hg5]; rfl
      · unfold six
        exact (((((HB.out.setCell (p := ⟨w.heap.size + 1, 0, none⟩) (by simp) _).setCell (p := ⟨w.heap.size + 1, 1, none⟩) (by simp) _).setCell (p := ⟨w.heap.size + 1, 2, none⟩) (by simp) _).setCell (p := ⟨w.heap.size + 1, 3, none⟩) (by simp) _).setCell (p := ⟨w.heap.size + 1, 4, none⟩) (by simp) _).setCell (p := ⟨w.heap.size + 1, 5, none⟩) (by simp) _
theorem at_I {w : World} {A : Option Addr} {n : Nat} {xs : List Int} (h : Kd.C (Kd.int .i64) w A n xs) (i : Int) (h0 : 0 ≤ i) (h1 : i < n) : ∃ ad, A = some ad ∧ w.cell? (ad.add i.toNat) = some (.int .i64 (xs.getD i.toNat 0)) := by
  obtain ⟨ad, c, e, _, hK, hc0⟩ := Kd.C_get h 0 i h0 h1
  obtain rfl : c = [.int .i64 (xs.getD i.toNat 0)] := hK
  have := hc0 0 _ rfl
  exact ⟨ad, e, by simpa [Kd.int, Kd.scalar] using this⟩
def nd (p : Int) : Int := if p < 0 then -p else 0
def sp (s : Bool) (p : Int) : Int := if s = true then (if 0 < p then p else 0) else 0
def po (cs : List S75) (t : List Int) (i : Nat) : Int := ow cs i + t.getD i 0
def ndL (cs : List S75) (t : List Int) (n : Nat) : List Int := (List.range n).map fun i => nd (po cs t i)
def spL (hs : List S73) (cs : List S75) (t : List Int) (n : Nat) : List Int := (List.range n).map fun i => sp (hs.getD i z73).f1 (po cs t i)
theorem ndL_succ (cs : List S75) (t : List Int) (n : Nat) : ndL cs t (n + 1) = ndL cs t n ++ [nd (po cs t n)] := by simp [ndL, List.range_succ]
theorem spL_succ (hs : List S73) (cs : List S75) (t : List Int) (n : Nat) : spL hs cs t (n + 1) = spL hs cs t n ++ [sp (hs.getD n z73).f1 (po cs t n)] := by simp [spL, List.range_succ]
theorem need_f (a b : Int) (s : Bool) (c p : Int) (h1 : -9223372036854775807 ≤ p) (h2 : p ≤ 9223372036854775807) : corner_House_need.f a b s c p = some (nd p) := by
  unfold corner_House_need.f nd mx wrap64
  congr 1
  omega
theorem spare_f (a b : Int) (s : Bool) (c p : Int) : corner_House_spare.f a b s c p = some (sp s p) := by
  unfold corner_House_spare.f sp mx
  cases s <;> simp
def okT (t : List Int) : Prop := ∀ x ∈ t, -1000000 ≤ x ∧ x ≤ 1000000
def Rest (g : Nat) (cs : List S75) (i : Nat) (w : World) : Prop := ∀ j : Nat, j < 6 → w.frozen? ⟨g, j, none⟩ = false ∧ (i ≤ j → w.cell? ⟨g, j, none⟩ = some (.int .i64 (ow cs j)))
structure Reg (w : World) (gh g1 : Nat) (i p : Int) (x : S73) (cs : List S75) (v4 v5 : Value) (l4 l5 : List Int) (W : World) : Prop where
  S : W.cell? ⟨gh, 0, none⟩ = some (.int .i64 x.f0.f0) ∧ W.cell? ⟨gh, 1, none⟩ = some (.int .i64 x.f0.f1) ∧ W.cell? ⟨gh, 2, none⟩ = some (.bool x.f1) ∧ W.cell? ⟨gh, 3, none⟩ = some (.int .i64 x.f2) ∧ W.cell? ⟨g1, i.toNat, none⟩ = some (.int .i64 p)
  lt : g1 < gh ∧ gh < W.heap.size
  o4 : W.ownsRow (g1 + 1) 3 1 v4 l4.length (nums .i64 l4)
  o5 : W.ownsRow (g1 + 1) 3 1 v5 l5.length (nums .i64 l5)
  ne : NeRow v4 v5
  n4 : v4.ownBlock ≠ some gh
  n5 : v5.ownBlock ≠ some gh
  rest : Rest g1 cs (i + 1).toNat W
  bel : Below w.heap.size w W
  base : w.heap.size ≤ g1
theorem Rest.kept {g : Nat} {cs : List S75} {i : Nat} {w W : World} (h : Rest g cs i w) (hb : W.heap[g]? = w.heap[g]?) : Rest g cs i W := by
  intro j hj
  obtain ⟨h1, h2⟩ := h j hj
  exact ⟨by simpa [World.frozen?, hb] using h1, fun hi => by have := h2 hi; simpa [World.cell?, hb] using this⟩
section
variable {w : World} {gh g1 : Nat} {i p : Int} {x : S73} {cs : List S75} {v4 v5 : Value} {l4 l5 : List Int} {W W' : World}
theorem Reg.below (h : Reg w gh g1 i p x cs v4 v5 l4 l5 W) (hb : Below W.heap.size W W') : Reg w gh g1 i p x cs v4 v5 l4 l5 W' := by
  obtain ⟨⟨s0, s1, s2, s3, s4⟩, ⟨l1, l2⟩, o4, o5, ne, n4, n5, r, b, bs⟩ := h
  exact ⟨⟨pw_cell_below hb s0, pw_cell_below hb s1, pw_cell_below hb s2, pw_cell_below hb s3, pw_cell_below hb s4⟩, ⟨l1, Nat.lt_of_lt_of_le l2 hb.size⟩, pw_own_below o4 hb, pw_own_below o5 hb, ne, n4, n5, r.kept (hb.block _ (by omega)), b.trans (hb.mono b.size), bs⟩
theorem Reg.alloc (h : Reg w gh g1 i p x cs v4 v5 l4 l5 W) (o : Obj) : Reg w gh g1 i p x cs v4 v5 l4 l5 (W.alloc o) := h.below (below_alloc (Below.refl _ _) o)
theorem Reg.drew (h : Reg w gh g1 i p x cs v4 v5 l4 l5 W) : Reg w gh g1 i p x cs v4 v5 l4 l5 W.drew := h.below (below_drew (Below.refl _ _))
theorem grown_cell {w w' : World} {row : Option Nat} (hg : w.grownBy w' row) {a : Addr} {v : Value} (h : w.cell? a = some v) (hn : row ≠ some a.block) : w'.cell? a = some v := by
  have hb := hg.block a.block (World.block_lt_of_cell? w a h) (fun e => hn e.symm)
  simpa [World.cell?, hb] using h
theorem Reg.app4 (h : Reg w gh g1 i p x cs v4 v5 l4 l5 W) {v' : Value} {y : Int} (ho : W'.ownsRow (g1 + 1) 3 1 v' (l4.length + 1) (nums .i64 l4 ++ [.int .i64 y])) (hg : W.grownBy W' v4.ownBlock)
    (hat : v'.ownBlock = v4.ownBlock ∨ ∃ b, v'.ownBlock = some b ∧ W.heap.size ≤ b) : Reg w gh g1 i p x cs v' v5 (l4 ++ [y]) l5 W' := by
  obtain ⟨⟨s0, s1, s2, s3, s4⟩, ⟨l1, l2⟩, o4, o5, ne, n4, n5, r, b, bs⟩ := h
  have hb4 : ∀ k, v4.ownBlock = some k → g1 + 1 ≤ k := fun k hk => own_base o4 k hk
  refine ⟨⟨grown_cell hg s0 n4, grown_cell hg s1 n4, grown_cell hg s2 n4, grown_cell hg s3 n4, grown_cell hg s4 (fun e => by have := hb4 g1 e; omega)⟩, ⟨l1, Nat.lt_of_lt_of_le l2 hg.size⟩, by simpa [nums] using ho, own_other o5 hg ?_, ?_, ?_, n5, r.kept (hg.block _ (by omega) (fun e => by have := hb4 _ e.symm; omega)), b.grown hg b.size (fun k hk => by have := hb4 _ hk; omega), bs⟩
  · cases h5 : v5.ownBlock with
    | none => exact .inl rfl
    | some k => exact .inr (fun e => ne k (by rw [← e]) h5)
  · intro k hk
    rcases hat with hat | ⟨b', hb', hl⟩
    · exact ne k (hat ▸ hk)
    · intro h5
      have := own_lt o5 k h5
      rw [hb'] at hk; injection hk with hk; omega
  · rcases hat with hat | ⟨b', hb', hl⟩
    · rw [hat]; exact n4
    · rw [hb']; intro e; injection e with e; omega
theorem Reg.app5 (h : Reg w gh g1 i p x cs v4 v5 l4 l5 W) {v' : Value} {y : Int} (ho : W'.ownsRow (g1 + 1) 3 1 v' (l5.length + 1) (nums .i64 l5 ++ [.int .i64 y])) (hg : W.grownBy W' v5.ownBlock)
    (hat : v'.ownBlock = v5.ownBlock ∨ ∃ b, v'.ownBlock = some b ∧ W.heap.size ≤ b) : Reg w gh g1 i p x cs v4 v' l4 (l5 ++ [y]) W' := by
  obtain ⟨⟨s0, s1, s2, s3, s4⟩, ⟨l1, l2⟩, o4, o5, ne, n4, n5, r, b, bs⟩ := h
  have hb5 : ∀ k, v5.ownBlock = some k → g1 + 1 ≤ k := fun k hk => own_base o5 k hk
  refine ⟨⟨grown_cell hg s0 n5, grown_cell hg s1 n5, grown_cell hg s2 n5, grown_cell hg s3 n5, grown_cell hg s4 (fun e => by have := hb5 g1 e; omega)⟩, ⟨l1, Nat.lt_of_lt_of_le l2 hg.size⟩, own_other o4 hg ?_, by simpa [nums] using ho, ?_, n4, ?_, r.kept (hg.block _ (by omega) (fun e => by have := hb5 _ e.symm; omega)), b.grown hg b.size (fun k hk => by have := hb5 _ hk; omega), bs⟩
  · cases h4 : v4.ownBlock with
    | none => exact .inl rfl
    | some k => exact .inr (fun e => ne k h4 (by rw [← e]))
  · intro k hk
    rcases hat with hat | ⟨b', hb', hl⟩
    · rw [hat]; exact ne k hk
    · intro h5
      have := own_lt o4 k hk
      rw [hb'] at h5; injection h5 with h5; omega
  · rcases hat with hat | ⟨b', hb', hl⟩
    · rw [hat]; exact n5
    · rw [hb']; intro e; injection e with e; omega
theorem Reg.le (h : Reg w gh g1 i p x cs v4 v5 l4 l5 W) : g1 + 1 ≤ W.heap.size := by have := h.lt; omega
end
theorem Reg.start {w wr : World} {g1 : Nat} {i p o : Int} {x : S73} {cs : List S75} {v4 v5 : Value} {l4 l5 : List Int} (hi0 : 0 ≤ i) (hlt : g1 < wr.heap.size) (ho4 : wr.ownsRow (g1 + 1) 3 1 v4 l4.length (nums .i64 l4)) (ho5 : wr.ownsRow (g1 + 1) 3 1 v5 l5.length (nums .i64 l5)) (hne : NeRow v4 v5)
    (hp : wr.cell? ⟨g1, i.toNat, none⟩ = some (.int .i64 o)) (hr : Rest g1 cs i.toNat wr) (hb : Below w.heap.size w wr) (hw : w.heap.size ≤ g1) :
    Reg w wr.heap.size g1 i p x cs v4 v5 l4 l5 ((wr.setCell ⟨g1, i.toNat, none⟩ (.int .i64 p)).alloc (.cells #[.int .i64 x.f0.f0, .int .i64 x.f0.f1, .bool x.f1, .int .i64 x.f2] 73)).drew := by
  have hs : (wr.setCell ⟨g1, i.toNat, none⟩ (.int .i64 p)).heap.size = wr.heap.size := World.size_setCell _ _ _
  have mv : ∀ {v : Value} {n : Nat} {l : List Value}, wr.ownsRow (g1 + 1) 3 1 v n l → (((wr.setCell ⟨g1, i.toNat, none⟩ (.int .i64 p)).alloc (.cells #[.int .i64 x.f0.f0, .int .i64 x.f0.f1, .bool x.f1, .int .i64 x.f2] 73)).drew).ownsRow (g1 + 1) 3 1 v n l := by
    intro v n l h
    refine pw_own_below (own_move h (fun k hk => ?_)) (below_drew (below_alloc (Below.refl _ _) _))
    exact Below.heap_setCell wr ⟨g1, i.toNat, none⟩ _ k (by have := own_base h k hk; intro e; simp at e; omega)
  have hcell : ∀ j, (((wr.setCell ⟨g1, i.toNat, none⟩ (.int .i64 p)).alloc (.cells #[.int .i64 x.f0.f0, .int .i64 x.f0.f1, .bool x.f1, .int .i64 x.f2] 73)).drew).cell? ⟨wr.heap.size, j, none⟩ = (#[.int .i64 x.f0.f0, .int .i64 x.f0.f1, .bool x.f1, .int .i64 x.f2] : Array Value)[j]? := by
    intro j
    show (World.alloc _ _).cell? _ = _
    rw [← hs, World.cell?_alloc_new]
  refine ⟨⟨(hcell 0).trans rfl, (hcell 1).trans rfl, (hcell 2).trans rfl, (hcell 3).trans rfl, ?_⟩, ⟨hlt, by simp⟩, mv ho4, mv ho5, hne, ?_, ?_, ?_, ?_, hw⟩
  · show (World.alloc _ _).cell? _ = _
    rw [World.cell?_alloc_past _ _ _ (by rw [hs]; exact hlt), World.cell?_setCell_same' _ _ _ (by rw [hp]; rfl)]
  · intro e; have := own_lt ho4 _ e; omega
  · intro e; have := own_lt ho5 _ e; omega
  · intro j hj
    obtain ⟨h1, h2⟩ := hr j hj
    refine ⟨?_, fun hij => ?_⟩
    · show (World.alloc _ _).frozen? _ = _
      rw [World.frozen?_alloc_past _ _ _ (by rw [hs]; exact hlt), World.frozen?_setCell]; exact h1
    · show (World.alloc _ _).cell? _ = _
      rw [World.cell?_alloc_past _ _ _ (by rw [hs]; exact hlt), World.cell?_setCell_other _ _ _ _ (by intro e; injection e; omega)]
      exact h2 (by omega)
  · exact below_drew ((hb.setCell (p := ⟨g1, i.toNat, none⟩) hw _).alloc (by rw [hs]; omega) _)
theorem R_nums {w : World} {base base' : Nat} {v : Value} {l : List Int} (h : w.ownsRow base 3 1 v l.length (nums .i64 l)) (hb : base' ≤ base) : Kd.R (Kd.int .i64) 3 w base' (fun _ => True) v l :=
  Kd.R_of_own (own_weaken h hb) (fun _ _ => trivial)
theorem R_numsA {w : World} {base base' : Nat} {v u : Value} {l : List Int} (h : w.ownsRow base 3 1 v l.length (nums .i64 l)) (hb : base' ≤ base) (hn : NeRow v u) : Kd.R (Kd.int .i64) 3 w base' (fun k_ => some k_ ≠ u.ownBlock) v l :=
  Kd.R_of_own (own_weaken h hb) (fun k hk e => hn k hk e.symm)
theorem rd_T73_eq (l : List S73) (i : Int) : rd_T73 l i = l.getD i.toNat z73 := rfl
theorem info3' : (Try.prog.info? 3).map (fun i => (i.zero, i.size, i.bytes)) = some (some (.int .i64 0), 1, 8) := info3
set_option maxHeartbeats 1000000 in
set_option maxRecDepth 100000 in
theorem needs_calls (a0_0 : Int) (A0_1 : Option Addr) (c0_1 : Nat) (l0_1 : List (S73)) (A0_2 : Option Addr) (c0_2 : Nat) (l0_2 : List (S75)) (A1 : Option Addr) (c1 : Nat) (l1 : List Int) (w : World) (hr0_1 : Kd.C k73 w A0_1 l0_1.length l0_1) (hr0_2 : Kd.C k75 w A0_2 l0_2.length l0_2) (hr1 : Kd.C (Kd.int .i64) w A1 l1.length l1)
    (hok : okCs l0_2) (hn : l0_1.length ≤ 6) (hl : l1.length = l0_1.length) (ht : okT l1) :
    Calls Try.prog 68 #[.agg #[.int .i64 a0_0, .slice A0_1 l0_1.length c0_1, .slice A0_2 l0_2.length c0_2], .slice A1 l1.length c1] w fun e w' => ∃ v0_ v1_ : Value, e = .returned (.tuple #[v0_, v1_]) ∧ Kd.R (Kd.int .i64) 3 w' w.heap.size (fun k_ => some k_ ≠ (v1_ : Value).ownBlock) v0_ (ndL l0_2 l1 l0_1.length) ∧ Kd.R (Kd.int .i64) 3 w' w.heap.size (fun k_ => some k_ ≠ (v0_ : Value).ownBlock) v1_ (spL l0_1 l0_2 l1 l0_1.length) ∧ Below w.heap.size w w' := by
  have hu35 := Try.underlying35
  have hu73 := Try.underlying73
  have hu142 := Try.underlying142
  have M1 := Aside0.mk hr0_1
  have M2 := Aside0.mk hr0_2
  have M3 := Aside0.mk hr1
  have HOK := Aside0.mk hok
  have HL := Aside0.mk hl
  have HT := Aside0.mk ht
  have hl1 : l1.length ≤ 6 := by omega
  have hl2 : l0_1.length ≤ l1.length := by omega
  clear hr0_1 hr0_2 hr1 hok hl ht
  go_enter Try.func68, Try.ntmps68
  go_wp2_with fail
  refine (owed_calls _ _ _ l0_1 _ _ l0_2 _ (Kd.C_below M2.out ((Below.refl w.heap.size w).alloc (Nat.le_refl _) _)) HOK.out).mono ?_
  rintro e w1 ⟨rfl, hb⟩
  have HB := Aside0.mk (((Below.refl w.heap.size w).alloc (Nat.le_refl _) (.cells #[.int .i64 a0_0, .slice A0_1 l0_1.length c0_1, .slice A0_2 l0_2.length c0_2] 35)).trans (hb.mono (by simp)))
  have hc1 := hb.cell (p := ⟨w.heap.size, 1, none⟩) (by simp)
  rw [World.cell?_alloc_new] at hc1
  have hs1 := hb.size
  simp at hs1 hc1
  replace hs1 : w.heap.size < w1.heap.size := by omega
  clear hb
  go_wp2_with fail
  go_loopw [4, 5, 14] (fun v4 v5 v14 wr => ∃ i : Int, v14 = .int .i64 i ∧ 0 ≤ i ∧ i ≤ (l0_1.length : Int) ∧ w1.heap.size < wr.heap.size ∧ Aside0 (wr.ownsRow (w1.heap.size + 1) 3 1 v4 (ndL l0_2 l1 i.toNat).length (nums .i64 (ndL l0_2 l1 i.toNat))) ∧
      Aside0 (wr.ownsRow (w1.heap.size + 1) 3 1 v5 (spL l0_1 l0_2 l1 i.toNat).length (nums .i64 (spL l0_1 l0_2 l1 i.toNat))) ∧ Aside0 (NeRow v4 v5) ∧ Aside0 (Rest w1.heap.size l0_2 i.toNat wr) ∧ Aside0 (Below w.heap.size w wr)) (fun _ _ v14 _ => l0_1.length - (intOf v14).toNat)
  case atStart =>
    refine ⟨0, rfl, by omega, by omega, by simp, ⟨own_nil _ _ _ _⟩, ⟨own_nil _ _ _ _⟩, ⟨fun k hk => by simp [Value.ownBlock] at hk⟩, ⟨?_⟩, ⟨HB.out.alloc (by omega) _⟩⟩
    intro j hj
    match j, hj with
    | 0, _ => exact ⟨by simp, fun _ => by simp⟩
    | 1, _ => exact ⟨by simp, fun _ => by simp⟩
    | 2, _ => exact ⟨by simp, fun _ => by simp⟩
    | 3, _ => exact ⟨by simp, fun _ => by simp⟩
    | 4, _ => exact ⟨by simp, fun _ => by simp⟩
    | 5, _ => exact ⟨by simp, fun _ => by simp⟩
  case round =>
    obtain ⟨i, rfl, hi0, hil, hsz, HO4, HO5, HN, HR, HB2⟩ := hrel
    by_cases hlt : i < (l0_1.length : Int)
    · obtain ⟨ad, rfl, h0, h1, h2, h3⟩ := at_T73 (Kd.C_below M1.out HB2.out) i hi0 hlt
      obtain ⟨at1, rfl, ht1⟩ := at_I (Kd.C_below M3.out HB2.out) i hi0 (by omega)
      obtain ⟨hf1, hp1⟩ := HR.out i.toNat (by omega)
      replace hp1 := hp1 (Nat.le_refl _)
      rw [show ((i.toNat : Nat) : Int) = i from by omega] at hp1
      obtain ⟨t1, HT1⟩ : ∃ t, Aside0 (t = l1.getD i.toNat 0) := ⟨_, ⟨rfl⟩⟩
      rw [← HT1.out] at ht1
      have b1 : -1000000 ≤ t1 ∧ t1 ≤ 1000000 := by
        rw [HT1.out, List.getD_eq_getElem?_getD, List.getElem?_eq_getElem (by omega), Option.getD_some]
        exact HT.out _ (List.getElem_mem _)
      obtain ⟨o1, HO1⟩ : ∃ t, Aside0 (t = ow l0_2 i) := ⟨_, ⟨rfl⟩⟩
      rw [← HO1.out] at hp1
      have b2 : -1600 ≤ o1 ∧ o1 ≤ 1600 := by
        rw [HO1.out]
        have := ow_bound l0_2 i (fun c hc => by have := HOK.out.2 c hc; omega)
        have := HOK.out.1
        omega
      obtain ⟨x, HX⟩ : ∃ t, Aside0 (t = rd_T73 l0_1 i) := ⟨_, ⟨rfl⟩⟩
      rw [← HX.out] at h0 h1 h2 h3
      obtain ⟨b1, b1'⟩ := b1
      obtain ⟨b2, b2'⟩ := b2
      have hi6 : i < 6 := by omega
      have hi1 : i < (l1.length : Int) := by omega
      replace ht1 : ∀ o, (wr.alloc o).cell? (at1.add i.toNat) = some (.int .i64 t1) := fun o => (World.cell?_alloc_lt _ _ _ (World.block_lt_of_cell? wr _ ht1)).trans ht1
      go_wp2_with fail
      go_region
      go_wp2_with fail
      have hG : Reg w wr.heap.size w1.heap.size i (o1 + t1) x l0_2 u4 u5 (ndL l0_2 l1 i.toNat) (spL l0_1 l0_2 l1 i.toNat) ((wr.setCell ⟨w1.heap.size, i.toNat, none⟩ (.int .i64 (o1 + t1))).alloc (.cells #[.int .i64 x.f0.f0, .int .i64 x.f0.f1, .bool x.f1, .int .i64 x.f2] 73)).drew := by
        exact Reg.start hi0 hsz HO4.out HO5.out HN.out hp1 HR.out HB2.out (Nat.le_of_lt hs1)
      generalize ((wr.setCell ⟨w1.heap.size, i.toNat, none⟩ (.int .i64 (o1 + t1))).alloc (.cells #[.int .i64 x.f0.f0, .int .i64 x.f0.f1, .bool x.f1, .int .i64 x.f2] 73)).drew = W at *
      have G1 := Aside0.mk hG.drew
      clear hG
      generalize wr.heap.size = gh at *
      generalize hpp : o1 + t1 = p at *
      have HPP := Aside0.mk hpp
      clear hpp
      have hp9 : -9223372036854775807 ≤ p ∧ p ≤ 9223372036854775807 := by have := HPP.out; omega
      have NF := Aside0.mk (need_f x.f0.f0 x.f0.f1 x.f1 x.f2 p hp9.1 hp9.2)
      have SF := Aside0.mk (spare_f x.f0.f0 x.f0.f1 x.f1 x.f2 p)
      clear hp9
      have NOC : Aside0 (∀ u ∈ [Value.int .i64 (nd p)], u.oneCell' = true) := ⟨by intro u hu; rw [List.mem_singleton.1 hu]; rfl⟩
      have SOC : Aside0 (∀ u ∈ [Value.int .i64 (sp x.f1 p)], u.oneCell' = true) := ⟨by intro u hu; rw [List.mem_singleton.1 hu]; rfl⟩
      have LB : Aside0 (((ndL l0_2 l1 i.toNat).length + 1) * 8 ≤ 140737488355328) := ⟨by simp [ndL]; omega⟩
      have LB2 : Aside0 (((spL l0_1 l0_2 l1 i.toNat).length + 1) * 8 ≤ 140737488355328) := ⟨by simp [spL]; omega⟩
      go_region_held3 (fun w' => w'.cell? ⟨gh, 0, none⟩ = some (.int .i64 x.f0.f0) ∧ w'.cell? ⟨gh, 1, none⟩ = some (.int .i64 x.f0.f1) ∧ w'.cell? ⟨gh, 2, none⟩ = some (.bool x.f1) ∧ w'.cell? ⟨gh, 3, none⟩ = some (.int .i64 x.f2) ∧ w'.cell? ⟨w1.heap.size, i.toNat, none⟩ = some (.int .i64 p))
        (first | exact G1.out.S | exact G2.out.S | exact (G2.out.alloc _).S | exact G3.out.S | exact G4.out.S | exact (G4.out.alloc _).S | exact G5.out.S)
        (first
          | (go_at_call 105; refine (corner_House_need.calls _ _ _ _ _ _ _ NF.out).mono ?_; rintro e w2 ⟨rfl, hb2⟩; have G2 := Aside0.mk (G1.out.below hb2))
          | (go_at_call 106; refine (corner_House_spare.calls _ _ _ _ _ _ _ SF.out).mono ?_; rintro e w4 ⟨rfl, hb4⟩; have G4 := Aside0.mk (G3.out.below hb4))
          | (refine step_append_cells (w1.heap.size + 1) (by rfl) (.tmp 28) (.tmp 34) 26 3 (.int .i64 0) 1 8 (by rfl) Try.underlying26 info3 (by rfl) (by omega) (by omega) u4 (ndL l0_2 l1 i.toNat).length (nums .i64 (ndL l0_2 l1 i.toNat)) [.int .i64 (nd p)] (by rfl) (by rfl) (by rfl) NOC.out G2.out.o4 (Below.refl _ _) G2.out.le LB.out ?_; intro v4' w3 ho hb hg hat; have G3 := Aside0.mk (G2.out.app4 ho hg hat); clear ho hb hg hat)
          | (refine step_append_cells (w1.heap.size + 1) (by rfl) (.tmp 36) (.tmp 42) 26 3 (.int .i64 0) 1 8 (by rfl) Try.underlying26 info3 (by rfl) (by omega) (by omega) u5 (spL l0_1 l0_2 l1 i.toNat).length (nums .i64 (spL l0_1 l0_2 l1 i.toNat)) [.int .i64 (sp x.f1 p)] (by rfl) (by rfl) (by rfl) SOC.out G4.out.o5 (Below.refl _ _) G4.out.le LB2.out ?_; intro v5' w5 ho hb hg hat; have G5 := Aside0.mk (G4.out.app5 ho hg hat); clear ho hb hg hat))
      go_wp2_with fail
      go_roundw
      case rel =>
        have e4 : ndL l0_2 l1 (i + 1).toNat = ndL l0_2 l1 i.toNat ++ [nd p] := by
          rw [show (i + 1).toNat = i.toNat + 1 from by omega, ndL_succ, ← HPP.out, HO1.out, HT1.out, po, show ((i.toNat : Nat) : Int) = i from by omega]
        have e5 : spL l0_1 l0_2 l1 (i + 1).toNat = spL l0_1 l0_2 l1 i.toNat ++ [sp x.f1 p] := by
          rw [show (i + 1).toNat = i.toNat + 1 from by omega, spL_succ, ← HPP.out, HO1.out, HT1.out, HX.out, rd_T73_eq, po, show ((i.toNat : Nat) : Int) = i from by omega]
        have g := G5.out
        exact ⟨i + 1, rfl, by omega, by omega, by have := g.lt; omega, ⟨by rw [e4]; exact g.o4⟩, ⟨by rw [e5]; exact g.o5⟩, ⟨g.ne⟩, ⟨g.rest⟩, ⟨g.bel⟩⟩
      case measure => simp [intOf]; omega
    · obtain rfl : i = l0_1.length := by omega
      go_wp2_with fail
      go_ret2
      have e : ((l0_1.length : Int).toNat) = l0_1.length := by omega
      have o4 := HO4.out
      have o5 := HO5.out
      rw [e] at o4 o5
      exact ⟨_, _, rfl, R_numsA o4 (by omega) HN.out, R_numsA o5 (by omega) (ne_symm HN.out), HB2.out⟩
def inHeld : List S73 → List Int → Bool
  | [], [] => true
  | h :: hs, x :: t => (decide (h.f0.f0 ≤ x) && decide (x ≤ h.f0.f1)) && inHeld hs t
  | _, _ => false
def isT (e : Int) (hs : List S73) (t : List Int) : Bool := inHeld hs t && decide (t.sum = e)
theorem inHeld_length : ∀ (hs : List S73) (t : List Int), inHeld hs t = true → t.length = hs.length
  | [], [], _ => rfl
  | h :: hs, x :: t, e => by
    simp only [inHeld, Bool.and_eq_true] at e
    simp [inHeld_length hs t e.2]
  | [], _ :: _, e => by simp [inHeld] at e
  | _ :: _, [], e => by simp [inHeld] at e
theorem vH_iff (h : S73) : vH h = true ↔ 0 ≤ h.f0.f0 ∧ h.f0.f0 ≤ h.f0.f1 ∧ h.f0.f1 ≤ 200 ∧ 0 ≤ h.f2 ∧ h.f2 ≤ 1000 := by simp [vH]
theorem vC_iff (n : Nat) (c : S75) : vC n c = true ↔ 0 ≤ c.f0 ∧ c.f0 ≤ (n : Int) - 1 ∧ 0 ≤ c.f1 ∧ c.f1 ≤ (n : Int) - 1 ∧ c.f0 ≠ c.f1 ∧ 1 ≤ c.f2 ∧ c.f2 ≤ 200 := by simp [vC]
theorem inHeld_okT : ∀ (hs : List S73) (t : List Int), inHeld hs t = true → (∀ h ∈ hs, vH h = true) → ∀ x ∈ t, 0 ≤ x ∧ x ≤ 200
  | [], [], _, _ => fun x hx => by cases hx
  | h :: hs, y :: t, e, hv => fun x hx => by
    simp only [inHeld, Bool.and_eq_true, decide_eq_true_eq] at e
    have h1 := (vH_iff h).1 (hv h List.mem_cons_self)
    rcases List.mem_cons.1 hx with rfl | hx
    · omega
    · exact inHeld_okT hs t e.2 (fun h hh => hv h (List.mem_cons_of_mem _ hh)) x hx
  | [], _ :: _, e, _ => by simp [inHeld] at e
  | _ :: _, [], e, _ => by simp [inHeld] at e
theorem ck_zero {e : Int} {hs : List S73} {cs : List S75} (h : ck e hs cs = 0) : 0 < hs.length ∧ hs.length ≤ 6 ∧ cs.length ≤ 8 ∧ 1 ≤ e ∧ e ≤ 200 ∧ (∀ h ∈ hs, vH h = true) ∧ ∀ c ∈ cs, vC hs.length c = true := by
  unfold ck at h
  split at h
  · cases h
  · split at h
    · cases h
    · rename_i h1 h2
      have h3 : 1 ≤ e ∧ e ≤ 200 := Classical.byContradiction fun h => h2 (.inl h)
      have h4 : ¬ hs.length = 0 := fun h => h2 (.inr (.inl h))
      have h5 : hs.all vH = true := by
        cases h5 : hs.all vH with
        | true => rfl
        | false => exact absurd (.inr (.inr (.inl h5))) h2
      have h6 : cs.all (vC hs.length) = true := by
        cases h6 : cs.all (vC hs.length) with
        | true => rfl
        | false => exact absurd (.inr (.inr (.inr h6))) h2
      exact ⟨by omega, by omega, by omega, h3.1, h3.2, List.all_eq_true.1 h5, List.all_eq_true.1 h6⟩
theorem ck_okCs {e : Int} {hs : List S73} {cs : List S75} (h : ck e hs cs = 0) : okCs cs := by
  obtain ⟨h1, h2, h3, _, _, _, h4⟩ := ck_zero h
  refine ⟨h3, fun c hc => ?_⟩
  have := (vC_iff _ c).1 (h4 c hc)
  omega
def corner_Market_needs.f (a0_0 : Int) (l0_1 : List (S73)) (l0_2 : List (S75)) (l1 : List Int) : Option (List Int × List Int) :=
  if ck a0_0 l0_1 l0_2 = 0 ∧ isT a0_0 l0_1 l1 = true then some (ndL l0_2 l1 l0_1.length, spL l0_1 l0_2 l1 l0_1.length) else none
theorem corner_Market_needs.calls (a0_0 : Int) (A0_1 : Option Addr) (c0_1 : Nat) (l0_1 : List (S73)) (A0_2 : Option Addr) (c0_2 : Nat) (l0_2 : List (S75)) (A1 : Option Addr) (c1 : Nat) (l1 : List Int) (r1 : List Int) (r2 : List Int) (w : World) (hr0_1 : Kd.C k73 w A0_1 l0_1.length l0_1) (hc0_1 : l0_1.length ≤ c0_1) (hr0_2 : Kd.C k75 w A0_2 l0_2.length l0_2) (hc0_2 : l0_2.length ≤ c0_2) (hr1 : Kd.C (Kd.int .i64) w A1 l1.length l1) (hc1 : l1.length ≤ c1) (h : corner_Market_needs.f a0_0 l0_1 l0_2 l1 = some (r1, r2)) :
    Calls Try.prog 68 #[.agg #[.int .i64 a0_0, .slice A0_1 l0_1.length c0_1, .slice A0_2 l0_2.length c0_2], .slice A1 l1.length c1] w fun e w' => ∃ v0_ v1_ : Value, e = .returned (.tuple #[v0_, v1_]) ∧ Kd.R (Kd.int .i64) 3 w' w.heap.size (fun k_ => some k_ ≠ (v1_ : Value).ownBlock) v0_ r1 ∧ Kd.R (Kd.int .i64) 3 w' w.heap.size (fun k_ => some k_ ≠ (v0_ : Value).ownBlock) v1_ r2 ∧ Below w.heap.size w w' := by
  unfold corner_Market_needs.f at h
  split at h
  · rename_i hh
    obtain ⟨h1, h2⟩ := hh
    injection h with h
    injection h with e1 e2
    subst e1 e2
    unfold isT at h2
    rw [Bool.and_eq_true] at h2
    have hz := ck_zero h1
    refine needs_calls a0_0 A0_1 c0_1 l0_1 A0_2 c0_2 l0_2 A1 c1 l1 w hr0_1 hr0_2 hr1 (ck_okCs h1) hz.2.1 (inHeld_length _ _ h2.1) (fun x hx => ?_)
    have := inHeld_okT _ _ h2.1 hz.2.2.2.2.2.1 x hx
    omega
  · cases h
end Go.Proofs.Ytgjifkegfbpjkaa.Q
end
