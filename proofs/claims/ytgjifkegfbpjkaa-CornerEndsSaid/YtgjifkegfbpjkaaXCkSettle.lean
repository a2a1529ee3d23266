/- Walks: Settle of package corner. -/
import Derived.Test.YtgjifkegfbpjkaaXCheap
import Derived.Sort.CutIn
section
namespace Go.Proofs.Ytgjifkegfbpjkaa.Q
set_option linter.unusedVariables false
set_option linter.unusedSimpArgs false
open Go.RowKit Go.Maps Go.Proofs.YtgjifkegfbpjkaaW.PrintWords Go.Proofs.YtgjifkegfbpjkaaW.PrintLast Go.Proofs.YtgjifkegfbpjkaaW.PrintMore
attribute [local go_sem] Oper.semAt_some
structure Sst where
  l : List S71
  cost : Int
  nd : List Int
  sp : List Int
def stN (s : Sst) (i j : Nat) : Int := mi (s.nd.getD j 0) (s.sp.getD i 0)
def stStep (ask : Int) (i : Nat) (s : Sst) (j : Nat) : Sst :=
  if stN s i j = 0 then s else ⟨s.l ++ [⟨(i : Int), (j : Int), stN s i j⟩], wrap64 (s.cost + wrap64 (stN s i j * ask)), s.nd.set j (wrap64 (s.nd.getD j 0 - stN s i j)), s.sp.set i (wrap64 (s.sp.getD i 0 - stN s i j))⟩
def stFrom (hs : List S73) (s : Sst) (i : Nat) : Sst := (List.range hs.length).foldl (stStep (rd_T73 hs i).f2 i) s
def stAll (hs : List S73) (hn0 : 0 < hs.length) (nd sp : List Int) : Sst := ((ordF hs hn0).map fun i => i.1).foldl (stFrom hs) ⟨[], 0, nd, sp⟩
def stRes (hs : List S73) (nd sp : List Int) : List S71 × Int × Int :=
  if hn0 : 0 < hs.length then (if 0 < maxL (stAll hs hn0 nd sp).nd then ([], 0, 10) else ((stAll hs hn0 nd sp).l, (stAll hs hn0 nd sp).cost, 0)) else ([], 0, 0)
def corner_Settle.f (a0_0 : Int) (l0_1 : List (S73)) (l0_2 : List (S75)) (l1 : List Int) : Option ((List (S71)) × Int × Int) :=
  (corner_Needs.f 16 a0_0 l0_1 l0_2 l1).bind fun t => some (if t.2.2 = 0 then stRes l0_1 t.1 t.2.1 else ([], 0, t.2.2))
theorem needs_zero {ex : Int} {hs : List S73} {cs : List S75} {t a b : List Int} (h : corner_Needs.f 16 ex hs cs t = some (a, b, 0)) : ck ex hs cs = 0 ∧ isT ex hs t = true ∧ a = ndL cs t hs.length ∧ b = spL hs cs t hs.length := by
  unfold corner_Needs.f at h
  obtain ⟨x, hx, h⟩ := Option.bind_eq_some_iff.1 h
  unfold corner_CheckMarket.f at hx
  injection hx with hx
  subst hx
  split at h
  · rename_i h0
    obtain ⟨y, hy, h⟩ := Option.bind_eq_some_iff.1 h
    split at h
    · obtain ⟨z, hz, h⟩ := Option.bind_eq_some_iff.1 h
      unfold corner_Market_needs.f at hz
      split at hz
      · rename_i hh
        injection hz with hz
        subst hz
        injection h with h
        injection h with e1 e2
        injection e2 with e2 e3
        exact ⟨h0, hh.2, e1.symm, e2.symm⟩
      · cases hz
    · injection h with h
      injection h with e1 e2
      injection e2 with e2 e3
      cases e3
  · rename_i h0
    injection h with h
    injection h with e1 e2
    injection e2 with e2 e3
    exact absurd e3 h0
def sf (hs : List S73) (nd sp : List Int) (pre : List (Fin hs.length)) : Sst := (pre.map fun i => i.1).foldl (stFrom hs) ⟨[], 0, nd, sp⟩
def sr (hs : List S73) (nd sp : List Int) (pre : List (Fin hs.length)) (x : Fin hs.length) (j : Nat) : Sst := (List.range j).foldl (stStep (rd_T73 hs (x.1 : Int)).f2 x.1) (sf hs nd sp pre)
theorem sr_succ (hs : List S73) (nd sp : List Int) (pre : List (Fin hs.length)) (x : Fin hs.length) (j : Nat) : sr hs nd sp pre x (j + 1) = stStep (rd_T73 hs (x.1 : Int)).f2 x.1 (sr hs nd sp pre x j) j := by
  unfold sr; rw [List.range_succ, List.foldl_append]; rfl
theorem sf_succ (hs : List S73) (nd sp : List Int) (pre : List (Fin hs.length)) (x : Fin hs.length) : sf hs nd sp (pre ++ [x]) = sr hs nd sp pre x hs.length := by
  unfold sr sf; rw [List.map_append, List.foldl_append]; rfl
theorem stStep_len (ask : Int) (i j : Nat) (s : Sst) : (stStep ask i s j).l.length ≤ s.l.length + 1 := by
  unfold stStep; split
  · omega
  · simp
theorem foldl_len (ask : Int) (i : Nat) : ∀ (l : List Nat) (s : Sst), (l.foldl (stStep ask i) s).l.length ≤ s.l.length + l.length
  | [], s => by simp
  | j :: l, s => by
    have h1 := foldl_len ask i l (stStep ask i s j)
    have h2 := stStep_len ask i j s
    simp only [List.foldl_cons, List.length_cons]
    omega
theorem stAll_len (hs : List S73) : ∀ (l : List Nat) (s : Sst), (l.foldl (stFrom hs) s).l.length ≤ s.l.length + l.length * hs.length
  | [], s => by simp
  | i :: l, s => by
    have h1 := stAll_len hs l (stFrom hs s i)
    have h2 := foldl_len (rd_T73 hs i).f2 i (List.range hs.length) s
    have h3 : (stFrom hs s i).l.length ≤ s.l.length + hs.length := by simpa [stFrom] using h2
    simp only [List.foldl_cons, List.length_cons, Nat.succ_mul]
    omega
theorem sf_len (hs : List S73) (nd sp : List Int) (pre : List (Fin hs.length)) : (sf hs nd sp pre).l.length ≤ pre.length * hs.length := by
  have := stAll_len hs (pre.map fun i => i.1) ⟨[], 0, nd, sp⟩
  simpa [sf] using this
theorem sr_len (hs : List S73) (nd sp : List Int) (pre : List (Fin hs.length)) (x : Fin hs.length) (j : Nat) : (sr hs nd sp pre x j).l.length ≤ pre.length * hs.length + j := by
  have h1 := sf_len hs nd sp pre
  have h2 := foldl_len (rd_T73 hs (x.1 : Int)).f2 x.1 (List.range j) (sf hs nd sp pre)
  simp only [List.length_range] at h2
  unfold sr
  omega
theorem nums_getD (l : List Int) (j : Nat) (h : j < l.length) : (nums .i64 l)[j]? = some (.int .i64 (l.getD j 0)) := by
  simp [nums, h]
theorem kpS_b {B bl : Nat} {w0 : World} (hbl : bl < w0.heap.size) (W : World) (l : Nat) (o o' : Obj) (h1 : w0.heap.size ≤ l) (h2 : W.heap[l]? = some o) (h3 : o.isCells = false) (h4 : o.isWalk = false) : KpS B bl W (W.putObj l o') := by
  intro b off v hb hc hu
  have hne : b ≠ l := by
    rintro rfl
    have : W.cell? ⟨b, off, none⟩ = none := by
      unfold World.cell?
      rw [h2]
      cases o <;> first | rfl | cases h3
    rw [this] at hc
    cases hc
  refine ⟨?_, fun u hu' => hu u ?_⟩
  · rw [← hc]; exact cell_block (World.putObj_heap_other hne)
  · rw [← hu']; exact (cell_block (World.putObj_heap_other (by show bl ≠ l; omega))).symm
theorem stay_set {W : World} {b : Nat} {t : TypeId} {v : Value} (h : Boxed W b t v) : Stay W (W.setCell ⟨b, 0, none⟩ v) := fun k o hk ho => by
  by_cases e : k = b
  · subst e
    rw [show W.heap[k]? = _ from h] at hk
    rw [← hk]
    exact Boxed.set v h
  · rw [Below.heap_setCell W ⟨b, 0, none⟩ v k e]; exact hk
theorem ndL_length (cs : List S75) (t : List Int) (n : Nat) : (ndL cs t n).length = n := by simp [ndL]
theorem spL_length (hs : List S73) (cs : List S75) (t : List Int) (n : Nat) : (spL hs cs t n).length = n := by simp [spL]
set_option maxHeartbeats 2000000 in
set_option maxRecDepth 100000 in
theorem settle_walk (a0_0 : Int) (A0_1 : Option Addr) (c0_1 : Nat) (l0_1 : List (S73)) (A0_2 : Option Addr) (c0_2 : Nat) (l0_2 : List (S75)) (A1 : Option Addr) (c1 : Nat) (l1 : List Int) (nd sp : List Int) (w : World) (hr0_1 : Kd.C k73 w A0_1 l0_1.length l0_1) (hc0_1 : l0_1.length ≤ c0_1) (hr0_2 : Kd.C k75 w A0_2 l0_2.length l0_2) (hc0_2 : l0_2.length ≤ c0_2) (hr1 : Kd.C (Kd.int .i64) w A1 l1.length l1) (hc1 : l1.length ≤ c1) (hn : corner_Needs.f 16 a0_0 l0_1 l0_2 l1 = some (nd, sp, 0)) :
    Calls Try.prog 42 #[.agg #[.int .i64 a0_0, .slice A0_1 l0_1.length c0_1, .slice A0_2 l0_2.length c0_2], .slice A1 l1.length c1] w fun e w' => ∃ v0_ : Value, e = .returned (.tuple #[v0_, .int .i64 (stRes l0_1 nd sp).2.1, .int .i64 (stRes l0_1 nd sp).2.2]) ∧ Kd.R k71 71 w' w.heap.size (fun _ => True) v0_ (stRes l0_1 nd sp).1 ∧ Below w.heap.size w w' := by
  obtain ⟨⟨r1, r2, r3⟩, hres0⟩ : ∃ r, stRes l0_1 nd sp = r := ⟨_, rfl⟩
  rw [hres0]
  have HRES := Aside0.mk hres0
  clear hres0
  have hu26 := Try.underlying26
  have hu35 := Try.underlying35
  obtain ⟨hz, ht, hnd, hsp⟩ := needs_zero hn
  obtain ⟨hn0, hn6, -⟩ := ck_zero hz
  have hln : nd.length = l0_1.length := by rw [hnd, ndL_length]
  have hls : sp.length = l0_1.length := by rw [hsp, spL_length]
  have HN := Aside0.mk hn
  have M1 := Aside0.mk hr0_1
  have M2 := Aside0.mk hr0_2
  have M3 := Aside0.mk hr1
  have C1 := Aside0.mk hc0_1
  have C2 := Aside0.mk hc0_2
  have C3 := Aside0.mk hc1
  have LN := Aside0.mk hln
  have LS := Aside0.mk hls
  clear hz ht hnd hsp hn hr0_1 hr0_2 hr1 hc0_1 hc0_2 hc1 hln hls
  refine (callsIn_wide (n := 3)).1 ?_
  refine callsIn_of_wp_marks Try.func42 rfl trivial ?_ rfl
  simp only [Try.ntmps42, List.size_toArray, List.length_cons, List.length_nil, Nat.reduceAdd, Nat.reduceSub, Array.replicate_succ, Array.replicate_zero, List.push_toArray, List.append_toArray, List.nil_append, List.cons_append]
  refine wpIn_seq (wpIn_wide.2 ?_)
  go_wp2_with fail
  have hb1 : Below w.heap.size w (((w.alloc (.cells #[.int .i64 a0_0, .slice A0_1 l0_1.length c0_1, .slice A0_2 l0_2.length c0_2] 35)).alloc (.cells #[.slice none 0 0] 65)).alloc (.cells #[.int .i64 0] 3)) := (((Below.refl _ _).alloc (Nat.le_refl _) _).alloc (by simp) _).alloc (by simp; omega) _
  have hx0 : (((w.alloc (.cells #[.int .i64 a0_0, .slice A0_1 l0_1.length c0_1, .slice A0_2 l0_2.length c0_2] 35)).alloc (.cells #[.slice none 0 0] 65)).alloc (.cells #[.int .i64 0] 3)).heap[w.heap.size]? = some (.cells #[.int .i64 a0_0, .slice A0_1 l0_1.length c0_1, .slice A0_2 l0_2.length c0_2] 35 (0, 0)) := blk_old (blk_old (blk_new _ _) _) _
  have hx1 : (((w.alloc (.cells #[.int .i64 a0_0, .slice A0_1 l0_1.length c0_1, .slice A0_2 l0_2.length c0_2] 35)).alloc (.cells #[.slice none 0 0] 65)).alloc (.cells #[.int .i64 0] 3)).heap[w.heap.size + 1]? = some (.cells #[.slice none 0 0] 65 (0, 0)) := blk_old (by have := blk_new (w.alloc (.cells #[.int .i64 a0_0, .slice A0_1 l0_1.length c0_1, .slice A0_2 l0_2.length c0_2] 35)) (.cells #[.slice none 0 0] 65); rwa [World.size_alloc] at this) _
  have hx2 : (((w.alloc (.cells #[.int .i64 a0_0, .slice A0_1 l0_1.length c0_1, .slice A0_2 l0_2.length c0_2] 35)).alloc (.cells #[.slice none 0 0] 65)).alloc (.cells #[.int .i64 0] 3)).heap[w.heap.size + 1 + 1]? = some (.cells #[.int .i64 0] 3 (0, 0)) := by have := blk_new ((w.alloc (.cells #[.int .i64 a0_0, .slice A0_1 l0_1.length c0_1, .slice A0_2 l0_2.length c0_2] 35)).alloc (.cells #[.slice none 0 0] 65)) (.cells #[.int .i64 0] 3); rwa [World.size_alloc, World.size_alloc] at this
  have hz1 : (((w.alloc (.cells #[.int .i64 a0_0, .slice A0_1 l0_1.length c0_1, .slice A0_2 l0_2.length c0_2] 35)).alloc (.cells #[.slice none 0 0] 65)).alloc (.cells #[.int .i64 0] 3)).heap.size = w.heap.size + 1 + 1 + 1 := by simp
  generalize ((w.alloc (.cells #[.int .i64 a0_0, .slice A0_1 l0_1.length c0_1, .slice A0_2 l0_2.length c0_2] 35)).alloc (.cells #[.slice none 0 0] 65)).alloc (.cells #[.int .i64 0] 3) = W1 at *
  obtain ⟨b0, HB0⟩ : ∃ b0, Aside0 (w.heap.size = b0) := ⟨_, ⟨rfl⟩⟩
  obtain ⟨bl, HBL⟩ : ∃ bl, Aside0 (b0 + 1 = bl) := ⟨_, ⟨rfl⟩⟩
  obtain ⟨bc, HBC⟩ : ∃ bc, Aside0 (bl + 1 = bc) := ⟨_, ⟨rfl⟩⟩
  rw [HB0.out] at hx0 hx1 hx2 hz1 ⊢
  rw [HBL.out] at hx1 hx2 hz1 ⊢
  rw [HBC.out] at hx2 hz1 ⊢
  have HB1 := Aside0.mk hb1
  have HZ1 := Aside0.mk hz1
  have HX0 := Aside0.mk hx0
  have HX1 := Aside0.mk hx1
  have HX2 := Aside0.mk hx2
  have k0 : W1.cell? ⟨b0, 0, none⟩ = some (.int .i64 a0_0) := by simp [World.cell?, hx0]
  have k1 : W1.cell? ⟨b0, 1, none⟩ = some (.slice A0_1 l0_1.length c0_1) := by simp [World.cell?, hx0]
  have k2 : W1.cell? ⟨b0, 2, none⟩ = some (.slice A0_2 l0_2.length c0_2) := by simp [World.cell?, hx0]
  clear hb1 hx0 hx1 hx2 hz1
  refine wpIn_seq (wpIn_wide.2 ?_)
  go_wp2_with fail
  refine (corner_Needs.calls 16 a0_0 A0_1 c0_1 l0_1 A0_2 c0_2 l0_2 A1 c1 l1 nd sp 0 W1 (Kd.C_below M1.out HB1.out) C1.out (Kd.C_below M2.out HB1.out) C2.out (Kd.C_below M3.out HB1.out) C3.out HN.out).mono ?_
  rintro e W2 ⟨v0, v1, rfl, hr0, hr1, hb2⟩
  have ho0 := Kd.own_of_R hr0
  have ho1 := Kd.own_of_R hr1
  have hne := hr0.1
  have h0' : 0 < nd.length := by rw [LN.out]; exact hn0
  have h1' : 0 < sp.length := by rw [LS.out]; exact hn0
  obtain ⟨g1, q1, rfl⟩ := own_some ho0 h0'
  obtain ⟨g2, q2, rfl⟩ := own_some ho1 h1'
  have hne' : g1 ≠ g2 := fun e => hne g1 (by simp [Value.ownBlock]) (by simp [Value.ownBlock, e])
  have ho0' : W2.ownsRow (bc + 1) 3 1 (.slice (some ⟨g1, 0, none⟩) l0_1.length q1) l0_1.length (nums .i64 nd) := by rw [← LN.out, ← HZ1.out]; exact ho0
  have ho1' : W2.ownsRow (bc + 1) 3 1 (.slice (some ⟨g2, 0, none⟩) l0_1.length q2) l0_1.length (nums .i64 sp) := by rw [← LS.out, ← HZ1.out]; exact ho1
  rw [LN.out, LS.out]
  have HO0 := Aside0.mk ho0'
  have HO1 := Aside0.mk ho1'
  have HNE := Aside0.mk hne'
  have HB2 := Aside0.mk (HB1.out.trans (hb2.mono HB1.out.size))
  have HX0b := Aside0.mk (blk_below hb2 HX0.out)
  have HX1b := Aside0.mk (blk_below hb2 HX1.out)
  have HX2b := Aside0.mk (blk_below hb2 HX2.out)
  have HZ2 : Aside0 (bc + 1 ≤ W2.heap.size) := ⟨by rw [← HZ1.out]; exact hb2.size⟩
  clear hr0 hr1 ho0 ho1 ho0' ho1' hne hne' h0' h1' hb2 k0 k1 k2
  go_wp2_with fail
  have hb3 : Below W2.heap.size W2 ((W2.alloc (.cells #[.slice (some ⟨g1, 0, none⟩) l0_1.length q1] 26)).alloc (.cells #[.slice (some ⟨g2, 0, none⟩) l0_1.length q2] 26)) := ((Below.refl _ _).alloc (Nat.le_refl _) _).alloc (by simp) _
  have hx3 : ((W2.alloc (.cells #[.slice (some ⟨g1, 0, none⟩) l0_1.length q1] 26)).alloc (.cells #[.slice (some ⟨g2, 0, none⟩) l0_1.length q2] 26)).heap[W2.heap.size]? = some (.cells #[.slice (some ⟨g1, 0, none⟩) l0_1.length q1] 26 (0, 0)) := blk_old (blk_new _ _) _
  have hx4 : ((W2.alloc (.cells #[.slice (some ⟨g1, 0, none⟩) l0_1.length q1] 26)).alloc (.cells #[.slice (some ⟨g2, 0, none⟩) l0_1.length q2] 26)).heap[W2.heap.size + 1]? = some (.cells #[.slice (some ⟨g2, 0, none⟩) l0_1.length q2] 26 (0, 0)) := by have := blk_new (W2.alloc (.cells #[.slice (some ⟨g1, 0, none⟩) l0_1.length q1] 26)) (.cells #[.slice (some ⟨g2, 0, none⟩) l0_1.length q2] 26); rwa [World.size_alloc] at this
  have hz3 : ((W2.alloc (.cells #[.slice (some ⟨g1, 0, none⟩) l0_1.length q1] 26)).alloc (.cells #[.slice (some ⟨g2, 0, none⟩) l0_1.length q2] 26)).heap.size = W2.heap.size + 1 + 1 := by simp
  generalize (W2.alloc (.cells #[.slice (some ⟨g1, 0, none⟩) l0_1.length q1] 26)).alloc (.cells #[.slice (some ⟨g2, 0, none⟩) l0_1.length q2] 26) = W3 at *
  have HB3 := Aside0.mk (HB2.out.trans (hb3.mono HB2.out.size))
  have HS3 : Aside0 (∀ bn bs, W2.heap.size = bn → bn + 1 = bs → St b0 bl bc bn bs #[.int .i64 a0_0, .slice A0_1 l0_1.length c0_1, .slice A0_2 l0_2.length c0_2] g1 q1 g2 q2 l0_1.length (.slice none 0 0) [] 0 nd sp W3) := ⟨fun bn bs e1 e2 => by
    subst e2 e1
    exact ⟨blk_below hb3 HX0b.out, blk_below hb3 HX1b.out, blk_below hb3 HX2b.out, hx3, hx4, Kd.R_nil _ _ _ _ _, pw_own_below HO0.out hb3, pw_own_below HO1.out hb3, HNE.out, by have := HBL.out; omega, by have := HBC.out; omega, by have := HZ2.out; omega, by omega, LN.out, LS.out⟩⟩
  obtain ⟨bn, HBN⟩ : ∃ bn, Aside0 (W2.heap.size = bn) := ⟨_, ⟨rfl⟩⟩
  rw [HBN.out] at hz3 ⊢
  obtain ⟨bs, HBS⟩ : ∃ bs, Aside0 (bn + 1 = bs) := ⟨_, ⟨rfl⟩⟩
  rw [HBS.out] at hz3 ⊢
  have HS := Aside0.mk (HS3.out bn bs HBN.out HBS.out)
  have HZ3 := Aside0.mk hz3
  clear HS3 hb3 hx3 hx4 hz3 HX0b HX1b HX2b HO0 HO1 HB2 HZ2
  have k0 : W3.cell? ⟨b0, 0, none⟩ = some (.int .i64 a0_0) := by simp [World.cell?, HS.out.m]
  have k1 : W3.cell? ⟨b0, 1, none⟩ = some (.slice A0_1 l0_1.length c0_1) := by simp [World.cell?, HS.out.m]
  have k2 : W3.cell? ⟨b0, 2, none⟩ = some (.slice A0_2 l0_2.length c0_2) := by simp [World.cell?, HS.out.m]
  refine wpIn_seq (wpIn_wide.2 ?_)
  go_wp2_with fail
  refine wpIn_seq ?_
  refine wpIn_seq (wpIn_wide.2 ?_)
  go_wp2_with fail
  refine (cheap_calls a0_0 A0_1 c0_1 l0_1.length A0_2 c0_2 l0_2.length W3).mono ?_
  rintro e W4 ⟨rfl, rfl⟩
  have hb4 : Below W3.heap.size W3 (W3.alloc (.cells #[.int .i64 a0_0, .slice A0_1 l0_1.length c0_1, .slice A0_2 l0_2.length c0_2] 35)) := (Below.refl _ _).alloc (Nat.le_refl _) _
  have hx5 := blk_new W3 (.cells #[.int .i64 a0_0, .slice A0_1 l0_1.length c0_1, .slice A0_2 l0_2.length c0_2] 35)
  have hz4 : (W3.alloc (.cells #[.int .i64 a0_0, .slice A0_1 l0_1.length c0_1, .slice A0_2 l0_2.length c0_2] 35)).heap.size = W3.heap.size + 1 := by simp
  rw [HZ3.out] at hx5 hz4 ⊢
  obtain ⟨bx, HBX⟩ : ∃ bx, Aside0 (bs + 1 = bx) := ⟨_, ⟨rfl⟩⟩
  rw [HBX.out] at hx5 hz4 ⊢
  generalize W3.alloc (.cells #[.int .i64 a0_0, .slice A0_1 l0_1.length c0_1, .slice A0_2 l0_2.length c0_2] 35) = W4 at *
  have HB4 := Aside0.mk (HB3.out.trans (hb4.mono HB3.out.size))
  have HS4 := Aside0.mk (HS.out.stay (Stay.below hb4))
  have HX5 := Aside0.mk hx5
  have HZ4 := Aside0.mk hz4
  clear hb4 hx5 hz4 k0 k1 k2 HS HB3
  go_wp2_with fail
  have hcx1 : W4.cell? ⟨bx, 1, none⟩ = some (.slice A0_1 l0_1.length c0_1) := by simp [World.cell?, HX5.out]
  have hcl : W4.cell? ⟨bl, 0, none⟩ = some (.slice none 0 0) := HS4.out.xl.cell
  have hbl4 : bl < W4.heap.size := HS4.out.xl.lt
  gi_wp2
  refine wpIn_rangeFunc_ownG rfl (show 1 ≤ 3 by omega) (gf := 114) (lb := #[.pointer (some ⟨bx, 0, none⟩)]) rfl trivial (enters_of Try.func114 (by kernel_rfl) rfl)
    (cheap_stops W4 2 bx bl (bx + 1) A0_1 c0_1 l0_1 hn0 hn6 (Kd.C_below M1.out HB4.out) hcx1 hcl (by rw [HZ4.out]; exact Nat.le_refl _)) (fun h k => KpS.trans h k) (kpS_b hbl4) (Below.refl _ _) (fun _ => rfl)
    (fun pre W => (∃ lv, St b0 bl bc bn bs #[.int .i64 a0_0, .slice A0_1 l0_1.length c0_1, .slice A0_2 l0_2.length c0_2] g1 q1 g2 q2 l0_1.length lv (sf l0_1 nd sp pre).l (sf l0_1 nd sp pre).cost (sf l0_1 nd sp pre).nd (sf l0_1 nd sp pre).sp W) ∧ Below b0 w W)
    (fun _ _ _ => False)
    (OwnFrom.and (fun s A B row hs hg hr => hs.imp fun _ h => h.stay (Stay.turn hg fun r e => (hr r e).2)) (ownFrom_below (by rw [HB0.out]; exact Nat.le_refl _) (by have := HS4.out.o1; omega)))
    (fun _ _ _ _ _ hs _ _ => hs)
    ⟨⟨_, HS4.out⟩, by rw [← HB0.out]; exact HB4.out⟩
    (fun x => { tmps := #[.agg #[.int .i64 a0_0, .slice A0_1 l0_1.length c0_1, .slice A0_2 l0_2.length c0_2], .slice A1 l1.length c1, .pointer (some ⟨b0, 0, none⟩), undef, .pointer (some ⟨bl, 0, none⟩), .pointer (some ⟨bc, 0, none⟩), .int .i64 0, .pointer (some ⟨bn, 0, none⟩), .pointer (some ⟨bs, 0, none⟩), .int .i64 (x.1 : Int), undef, undef,
      .tuple #[.slice (some ⟨g1, 0, none⟩) l0_1.length q1, .slice (some ⟨g2, 0, none⟩) l0_1.length q2, .int .i64 0], .agg #[.int .i64 a0_0, .slice A0_1 l0_1.length c0_1, .slice A0_2 l0_2.length c0_2], .slice A1 l1.length c1, .tuple #[.slice (some ⟨g1, 0, none⟩) l0_1.length q1, .slice (some ⟨g2, 0, none⟩) l0_1.length q2, .int .i64 0], .slice (some ⟨g1, 0, none⟩) l0_1.length q1, .slice (some ⟨g2, 0, none⟩) l0_1.length q2, .int .i64 0, .int .i64 0, .bool false, undef, .agg #[.int .i64 a0_0, .slice A0_1 l0_1.length c0_1, .slice A0_2 l0_2.length c0_2],
      .func (.func 114) #[] #[.pointer (some ⟨bx, 0, none⟩)], .int .i64 (x.1 : Int), undef, undef, undef, undef, undef, undef, undef, undef, undef, undef, undef, undef, undef, undef, undef, undef, undef, undef, undef, undef, undef, undef, undef, undef, undef, undef, undef, undef, undef, undef, undef, undef, undef, undef, undef, undef, undef, undef, undef, undef, undef, undef, undef, undef, undef, undef, undef, undef, undef, undef, undef, undef, undef, undef], defers := [] }) ?assign ?body ?done ?stop
  case assign =>
    intro l x W K hK
    gi_wp2
    exact hK
  case body =>
    rintro l pre x W ⟨⟨lv, hS⟩, hB⟩ hlt
    have HSr := Aside0.mk hS
    have HBr := Aside0.mk hB
    have HG1 : Aside0 (g1 < W4.heap.size) := ⟨own_lt HS4.out.rn g1 (by simp [Value.ownBlock])⟩
    have HG2 : Aside0 (g2 < W4.heap.size) := ⟨own_lt HS4.out.rs g2 (by simp [Value.ownBlock])⟩
    have hxn := hS.xn.cell
    clear hS hB hcx1 hcl hbl4
    gi_wp2
    gi_loopw [27] (fun v27 wr => ∃ j : Nat, v27 = .int .i64 j ∧ j ≤ l0_1.length ∧ (∃ lv, Aside0 (St b0 bl bc bn bs #[.int .i64 a0_0, .slice A0_1 l0_1.length c0_1, .slice A0_2 l0_2.length c0_2] g1 q1 g2 q2 l0_1.length lv (sr l0_1 nd sp pre x j).l (sr l0_1 nd sp pre x j).cost (sr l0_1 nd sp pre x j).nd (sr l0_1 nd sp pre x j).sp wr)) ∧ Aside0 (RK b0 (bx + 1) bl W wr))
      (fun v27 _ => l0_1.length - (intOf v27).toNat)
    case atStart => exact ⟨0, rfl, Nat.zero_le _, ⟨lv, HSr⟩, ⟨RK.refl W⟩⟩
    case round =>
      obtain ⟨j, rfl, hjl, ⟨lj, HSj⟩, HRj⟩ := hrel
      obtain ⟨s, HSQ⟩ : ∃ s, Aside0 (sr l0_1 nd sp pre x j = s) := ⟨_, ⟨rfl⟩⟩
      rw [HSQ.out] at HSj
      obtain ⟨i, HI⟩ : ∃ i, Aside0 (x.1 = i) := ⟨_, ⟨rfl⟩⟩
      have hil : i < l0_1.length := by rw [← HI.out]; exact x.2
      rw [HI.out]
      have hxn := HSj.out.xn.cell
      have hxs := HSj.out.xs.cell
      by_cases hlt2 : j < l0_1.length
      · have hlt2' : (j : Int) < (l0_1.length : Int) := by omega
        have hj0 : (0 : Int) ≤ (j : Int) := by omega
        have hil' : (i : Int) < (l0_1.length : Int) := by omega
        have hi0 : (0 : Int) ≤ (i : Int) := by omega
        have hnj : wr.cell? ⟨g1, j, none⟩ = some (.int .i64 (s.nd.getD j 0)) := by
          rw [HSj.out.rn.cellAt j (by omega)]; exact nums_getD _ _ (by rw [HSj.out.ln]; exact hlt2)
        have hsj : wr.cell? ⟨g2, i, none⟩ = some (.int .i64 (s.sp.getD i 0)) := by
          rw [HSj.out.rs.cellAt i (by omega)]; exact nums_getD _ _ (by rw [HSj.out.ls]; exact hil)
        obtain ⟨y, HY⟩ : ∃ y, Aside0 (s.nd.getD j 0 = y) := ⟨_, ⟨rfl⟩⟩
        obtain ⟨z, HZ⟩ : ∃ z, Aside0 (s.sp.getD i 0 = z) := ⟨_, ⟨rfl⟩⟩
        rw [HY.out] at hnj
        rw [HZ.out] at hsj
        gi_wp2
        refine tail_round 8 (fun ⟨_, _, h⟩ => h) rfl (by kernel_rfl) (by kernel_rfl) ?_
        simp only [List.take_succ_cons, List.take_zero, List.drop_succ_cons, List.drop_zero]
        repeat still_step
        try refine wpStill_nil ?_
        obtain ⟨w5, HW5⟩ : ∃ w5, Aside0 (wr.drew = w5) := ⟨_, ⟨rfl⟩⟩
        rw [show ({ heap := wr.heap, tape := wr.tape, drawn := wr.drawn + 1, os := wr.os, output := wr.output } : World) = w5 from HW5.out]
        go_wp2_with fail
        have hm0 : (w5.alloc (.cells #[.int .i64 y, .int .i64 z] 3)).cell? ⟨w5.heap.size, 0, none⟩ = some (.int .i64 y) := by simp
        have hm1 : (w5.alloc (.cells #[.int .i64 y, .int .i64 z] 3)).cell? ⟨w5.heap.size, 1, none⟩ = some (.int .i64 z) := by simp
        have hb6 : Below wr.heap.size wr (w5.alloc (.cells #[.int .i64 y, .int .i64 z] 3)) := by
          rw [← HW5.out]; exact (below_drew (Below.refl _ _)).alloc (Nat.le_refl _) _
        refine (min2 w5.heap.size y z _ hm0 hm1).mono ?_
        rintro e w6 ⟨rfl, rfl⟩
        generalize w5.alloc (.cells #[.int .i64 y, .int .i64 z] 3) = w6 at *
        have HS6 := Aside0.mk (HSj.out.stay (Stay.below hb6))
        have HR6 := Aside0.mk (HRj.out.trans (RK.below hb6 (by have := HSj.out.xl.lt; have := HSj.out.o1; omega) HSj.out.xl.lt))
        clear hm0 hm1 hb6 hnj hsj hxn hxs
        obtain ⟨m, HM⟩ : ∃ m, Aside0 (mi y z = m) := ⟨_, ⟨rfl⟩⟩
        rw [HM.out]
        go_wp2_with fail
        by_cases hm : m = 0
        · subst hm
          gi_wp2
          go_roundw
          case rel =>
            refine ⟨j + 1, by go_num, hlt2, ⟨lj, ⟨?_⟩⟩, HR6⟩
            rw [sr_succ, HSQ.out, HI.out]
            unfold stStep stN
            rw [HY.out, HZ.out, HM.out, if_pos rfl]
            exact HS6.out
          case measure => simp [intOf]; omega
        · have hm' : (m == 0) = false := beq_eq_false_iff_ne.2 hm
          have hxl := HS6.out.xl.cell
          have hszb : bc + 1 ≤ w6.heap.size := by have := HS6.out.xs.lt; have := HS6.out.o3; have := HS6.out.o4; omega
          have LB : Aside0 ((s.l.length + 1) * 24 ≤ 140737488355328) := ⟨by
            have h1 := sr_len l0_1 nd sp pre x j
            rw [HSQ.out] at h1
            have h2 : pre.length * l0_1.length ≤ 6 * 6 := Nat.mul_le_mul (by omega) hn6
            omega⟩
          gi_upto_region 11 with fail
          refine region_round (fun ⟨_, _, h⟩ => h) rfl ?_
          go_wp2_with ((with_reducible refine gate_builtin (b := .append) (xs := #[.tmp 42, .tmp 47]) rfl ?_); at_builtin; refine Kd.R_append k71 (w0 := w6) (bc + 1) rfl (.tmp 42) (.tmp 47) 65 71 (.agg #[(.int .i64 0), (.int .i64 0), (.int .i64 0)]) 24 rfl Try.underlying65 info71 rfl (by decide) (by omega) lj s.l (⟨(i : Int), (j : Int), m⟩ : S71) [.int .i64 (i : Int), .int .i64 (j : Int), .int .i64 m] (fun _ => True) (fun _ => False) rfl rfl (k71_mkM _ _ _ _) (fun _ hk => hk.elim) (fun _ _ => trivial) HS6.out.rl (Below.refl _ _) hszb LB.out ?_; intro v1 w7 hr hb hg hat; obtain ⟨inner, hown⟩ := Kd.R_own hr; obtain ⟨g9, cap9, rfl⟩ := own_some hown (by simp); obtain ⟨x1, hS7⟩ := HS6.out.app hr hg; have hc1 := Boxed.cell (t := 65) x1; have hf1 := Boxed.frozen (t := 65) x1; have HS7 := Aside0.mk hS7; have HR7 := Aside0.mk (HR6.out.trans (RK.app HS6.out.xl x1 hg hat (fun k hk => by obtain ⟨inn, ho⟩ := Kd.R_own HS6.out.rl; obtain ⟨c, hc⟩ := own_typed ho k hk; exact ⟨by have := own_base ho k hk; have := HS6.out.o1; have := HS6.out.o2; omega, c, 71, hc⟩) (by have := HS6.out.o1; omega) (by have := HS6.out.o2; have := HS6.out.o3; have := HS6.out.o4; have := HBX.out; omega) (by have := HS6.out.o1; have := HS6.out.o2; omega))); clear hr hb hg hat hown hS7 x1)
          have hlen : (s.l ++ [(⟨(i : Int), (j : Int), m⟩ : S71)]).length = s.l.length + 1 := by simp
          rw [hlen] at HS7 HR7
          obtain ⟨w8, HW8⟩ : ∃ w8, Aside0 (w7.setCell ⟨bl, 0, none⟩ (.slice (some ⟨g9, 0, none⟩) (s.l.length + 1) cap9) = w8) := ⟨_, ⟨rfl⟩⟩
          rw [HW8.out] at HS7 HR7 ⊢
          clear hc1 hf1 hxl hszb LB HS6 HR6 hlen
          have hb8 : Below w.heap.size w w8 := by rw [HB0.out]; exact HBr.out.trans HR7.out.be
          obtain ⟨ad, hA, -, -, -, h3⟩ := at_T73 (Kd.C_below M1.out hb8) (i : Int) (by omega) (by omega)
          subst hA
          rw [show ((i : Int).toNat) = i from by omega] at h3
          obtain ⟨ak, HAK⟩ : ∃ ak, Aside0 ((rd_T73 l0_1 (i : Int)).f2 = ak) := ⟨_, ⟨rfl⟩⟩
          rw [HAK.out] at h3
          have hu73 := Try.underlying73
          have hxc := HS7.out.xc.cell
          have hfc := HS7.out.xc.frozen
          have hm1 : w8.cell? ⟨b0, 1, none⟩ = some (.slice (some ad) l0_1.length c0_1) := by simp [World.cell?, HS7.out.m]
          clear hb8
          refine wpIn_seq ?_
          refine tail_round 10 (fun ⟨_, _, h⟩ => h) rfl (by kernel_rfl) (by kernel_rfl) ?_
          simp only [List.take_succ_cons, List.take_zero, List.drop_succ_cons, List.drop_zero]
          repeat still_step
          try refine wpStill_nil ?_
          obtain ⟨w9, HW9⟩ : ∃ w9, Aside0 (w8.drew = w9) := ⟨_, ⟨rfl⟩⟩
          rw [show ({ heap := w8.heap, tape := w8.tape, drawn := w8.drawn + 1, os := w8.os, output := w8.output } : World) = w9 from HW9.out]
          have hb9 : Below w8.heap.size w8 w9 := by rw [← HW9.out]; exact below_drew (Below.refl _ _)
          have HS9 := Aside0.mk (HS7.out.stay (Stay.below hb9))
          have HR9 := Aside0.mk (HR7.out.trans (RK.below hb9 (by have := HS7.out.xl.lt; have := HS7.out.o1; omega) HS7.out.xl.lt))
          have hxc := HS9.out.xc.cell
          have hfc := HS9.out.xc.frozen
          clear hb9 hm1 h3 HS7 HR7
          go_wp2_with fail
          have HS10 := Aside0.mk (HS9.out.setC (wrap64 (s.cost + wrap64 (m * ak))))
          have HR10 := Aside0.mk (HR9.out.trans (RK.set w9 ⟨bc, 0, none⟩ (.int .i64 (wrap64 (s.cost + wrap64 (m * ak)))) (by have := HS9.out.o1; have := HS9.out.o2; show b0 ≤ bc; omega) (by have := HS9.out.o3; have := HS9.out.o4; have := HBX.out; show bc < bx + 1; omega) (by have := HS9.out.o2; show bc ≠ bl; omega)))
          obtain ⟨w10, HW10⟩ : ∃ w10, Aside0 (w9.setCell ⟨bc, 0, none⟩ (.int .i64 (wrap64 (s.cost + wrap64 (m * ak)))) = w10) := ⟨_, ⟨rfl⟩⟩
          rw [HW10.out] at HS10 HR10 ⊢
          clear hxc hfc HS9 HR9
          have hxn := HS10.out.xn.cell
          have hnj : w10.cell? ⟨g1, j, none⟩ = some (.int .i64 (s.nd.getD j 0)) := by
            rw [HS10.out.rn.cellAt j (by omega)]; exact nums_getD _ _ (by rw [HS10.out.ln]; exact hlt2)
          rw [HY.out] at hnj
          have hfj := HS10.out.rn.frozenAt j
          gi_upto_region 14 with fail
          have HS11 := Aside0.mk (HS10.out.setN j (wrap64 (y - m)))
          have HR11 := Aside0.mk (HR10.out.trans (RK.set w10 ⟨g1, j, none⟩ (.int .i64 (wrap64 (y - m))) (by have := HS10.out.o1; have := HS10.out.o2; have := HS10.out.g1b; show b0 ≤ g1; omega) (by have := HG1.out; have := HZ4.out; show g1 < bx + 1; omega) (by have := HS10.out.o2; have := HS10.out.g1b; show g1 ≠ bl; omega)))
          obtain ⟨w11, HW11⟩ : ∃ w11, Aside0 (w10.setCell ⟨g1, j, none⟩ (.int .i64 (wrap64 (y - m))) = w11) := ⟨_, ⟨rfl⟩⟩
          rw [HW11.out] at HS11 HR11 ⊢
          clear hxn hnj hfj HS10 HR10
          have hxs := HS11.out.xs.cell
          have hsj : w11.cell? ⟨g2, i, none⟩ = some (.int .i64 (s.sp.getD i 0)) := by
            rw [HS11.out.rs.cellAt i (by omega)]; exact nums_getD _ _ (by rw [HS11.out.ls]; exact hil)
          rw [HZ.out] at hsj
          have hfs := HS11.out.rs.frozenAt i
          gi_upto_region 15 with fail
          have HS12 := Aside0.mk (HS11.out.setS i (wrap64 (z - m)))
          have HR12 := Aside0.mk (HR11.out.trans (RK.set w11 ⟨g2, i, none⟩ (.int .i64 (wrap64 (z - m))) (by have := HS11.out.o1; have := HS11.out.o2; have := HS11.out.g2b; show b0 ≤ g2; omega) (by have := HG2.out; have := HZ4.out; show g2 < bx + 1; omega) (by have := HS11.out.o2; have := HS11.out.g2b; show g2 ≠ bl; omega)))
          obtain ⟨w12, HW12⟩ : ∃ w12, Aside0 (w11.setCell ⟨g2, i, none⟩ (.int .i64 (wrap64 (z - m))) = w12) := ⟨_, ⟨rfl⟩⟩
          rw [HW12.out] at HS12 HR12 ⊢
          clear hxs hsj hfs HS11 HR11
          gi_wp2
          go_roundw
          case rel =>
            refine ⟨j + 1, by go_num, hlt2, ⟨.slice (some ⟨g9, 0, none⟩) (s.l.length + 1) cap9, ⟨?_⟩⟩, HR12⟩
            rw [sr_succ, HSQ.out, HI.out]
            unfold stStep stN
            rw [HY.out, HZ.out, HM.out, if_neg hm, HAK.out]
            exact HS12.out
          case measure => simp [intOf]; omega
      · obtain rfl : j = l0_1.length := by omega
        gi_wp2
        refine ⟨HRj.out.ko.from _, HRj.out.kp, ⟨lj, ?_⟩, HBr.out.trans HRj.out.be⟩
        rw [sf_succ, HSQ.out]
        exact HSj.out
  case done =>
    rintro D ys W hD rfl ⟨⟨lv, hS⟩, hB⟩ hK
    rw [show sf l0_1 nd sp (ordF l0_1 hn0) = stAll l0_1 hn0 nd sp from rfl] at hS
    have hres := HRES.out
    unfold stRes at hres
    rw [dif_pos hn0] at hres
    generalize stAll l0_1 hn0 nd sp = s at *
    obtain ⟨A9, c9, rfl⟩ := Kd.R_slice hS.rl
    have HSd := Aside0.mk hS
    have HBd := Aside0.mk hB
    have HKd := Aside0.mk hK
    have hxn := hS.xn.cell
    have hxl := hS.xl.cell
    have hfl := hS.xl.frozen
    have hxc := hS.xc.cell
    have hfc := hS.xc.frozen
    have HMX := Aside0.mk (sMax g1 l0_1.length q1 s.nd hS.ln hn0 (by omega) W (fun j hj => by rw [hS.rn.cellAt j (by omega)]; exact nums_getD _ _ (by rw [hS.ln]; exact hj)))
    have HQ := Aside0.mk hres
    clear hcx1 hcl hbl4 hS hB hres hK
    obtain ⟨mx, HX⟩ : ∃ mx, Aside0 (maxL s.nd = mx) := ⟨_, ⟨rfl⟩⟩
    rw [HX.out] at HMX HQ
    by_cases hpos : 0 < mx
    · have hq := HQ.out
      rw [if_pos hpos] at hq
      injection hq with e1 e2
      injection e2 with e2 e3
      subst e1 e2 e3
      have hlc : bc ≠ bl := by have := HSd.out.o2; omega
      have hxc2 : (W.setCell ⟨bl, 0, none⟩ (.slice none 0 0)).cell? ⟨bc, 0, none⟩ = some (.int .i64 s.cost) := by rw [cell_block (Below.heap_setCell W ⟨bl, 0, none⟩ _ bc hlc)]; exact hxc
      have hfc2 : (W.setCell ⟨bl, 0, none⟩ (.slice none 0 0)).frozen? ⟨bc, 0, none⟩ = false := by rw [World.frozen?_setCell]; exact hfc
      gi_wp2
      refine ⟨trivial, ?_⟩
      refine (callsIn_wide.2 HMX.out).mono ?_
      rintro e w' ⟨rfl, rfl⟩
      gi_wp2
      have hK2 : ((W.setCell ⟨bl, 0, none⟩ (.slice none 0 0)).setCell ⟨bc, 0, none⟩ (.int .i64 0)).heap[D]? = some (Obj.deferred (some [])) := (KeepsOthers.setCell _ _ _).same D _ ((KeepsOthers.setCell _ _ _).same D _ HKd.out rfl) rfl
      refine ⟨by simp, .inl ⟨_, _, rfl, run_takeDeferred hK2, ?_⟩⟩
      have hDl : bl ≠ D := by have := HS4.out.xl.lt; omega
      have hDc : bc ≠ D := by have := HS4.out.xc.lt; omega
      have hb1 : Below b0 w (((W.setCell ⟨bl, 0, none⟩ (.slice none 0 0)).setCell ⟨bc, 0, none⟩ (.int .i64 0)).putObj D (.deferred none)) := by
        refine ((HBd.out.setCell (p := ⟨bl, 0, none⟩) (by have := HSd.out.o1; show b0 ≤ bl; omega) (.slice none 0 0)).setCell (p := ⟨bc, 0, none⟩) (by have := HSd.out.o1; have := HSd.out.o2; show b0 ≤ bc; omega) (.int .i64 0)).trans ?_
        exact belowK_b (w := w) (by rw [HB0.out]; exact Nat.le_refl _) _ D _ _ (by have := HS4.out.xl.lt; have := HS4.out.o1; have := HB0.out; omega) hK2 rfl rfl
      have hc1 : (((W.setCell ⟨bl, 0, none⟩ (.slice none 0 0)).setCell ⟨bc, 0, none⟩ (.int .i64 0)).putObj D (.deferred none)).cell? ⟨bl, 0, none⟩ = some (.slice none 0 0) := by
        rw [cell_block (World.putObj_heap_other hDl), cell_block (Below.heap_setCell _ ⟨bc, 0, none⟩ _ bl (Ne.symm hlc))]
        exact World.cell?_setCell_same _ _ _ hxl
      have hc2 : (((W.setCell ⟨bl, 0, none⟩ (.slice none 0 0)).setCell ⟨bc, 0, none⟩ (.int .i64 0)).putObj D (.deferred none)).cell? ⟨bc, 0, none⟩ = some (.int .i64 0) := by
        rw [cell_block (World.putObj_heap_other hDc)]
        exact World.cell?_setCell_same _ _ _ hxc2
      clear hxc2 hfc2 hxl hfl hxc hfc hxn hK2
      generalize ((W.setCell ⟨bl, 0, none⟩ (.slice none 0 0)).setCell ⟨bc, 0, none⟩ (.int .i64 0)).putObj D (.deferred none) = Wf at *
      exact ⟨.tuple #[.slice none 0 0, .int .i64 0, .int .i64 10], by simp [results, Try.results42, go_sem, hc1, hc2], _, rfl, Kd.R_nil _ _ _ _ _, hb1⟩
    · have hq := HQ.out
      rw [if_neg hpos] at hq
      injection hq with e1 e2
      injection e2 with e2 e3
      subst e1 e2 e3
      have hlc : bc ≠ bl := by have := HSd.out.o2; omega
      have hxc2 : (W.setCell ⟨bl, 0, none⟩ (.slice A9 s.l.length c9)).cell? ⟨bc, 0, none⟩ = some (.int .i64 s.cost) := by rw [cell_block (Below.heap_setCell W ⟨bl, 0, none⟩ _ bc hlc)]; exact hxc
      have hfc2 : (W.setCell ⟨bl, 0, none⟩ (.slice A9 s.l.length c9)).frozen? ⟨bc, 0, none⟩ = false := by rw [World.frozen?_setCell]; exact hfc
      gi_wp2
      refine ⟨trivial, ?_⟩
      refine (callsIn_wide.2 HMX.out).mono ?_
      rintro e w' ⟨rfl, rfl⟩
      gi_wp2
      refine wpIn_wide.2 ?_
      go_region
      gi_wp2
      have hs1 : Stay W (((W.setCell ⟨bl, 0, none⟩ (.slice A9 s.l.length c9)).setCell ⟨bc, 0, none⟩ (.int .i64 s.cost)).drew) := by
        have h1 := stay_set HSd.out.xl
        have h2 := stay_set (W := W.setCell ⟨bl, 0, none⟩ (.slice A9 s.l.length c9)) (h1 _ _ HSd.out.xc rfl)
        exact fun k o hk ho => h2 k o (h1 k o hk ho) ho
      have hK2 : (((W.setCell ⟨bl, 0, none⟩ (.slice A9 s.l.length c9)).setCell ⟨bc, 0, none⟩ (.int .i64 s.cost)).drew).heap[D]? = some (Obj.deferred (some [])) := (KeepsOthers.setCell _ _ _).same D _ ((KeepsOthers.setCell _ _ _).same D _ HKd.out rfl) rfl
      have hb0 : Below b0 w (((W.setCell ⟨bl, 0, none⟩ (.slice A9 s.l.length c9)).setCell ⟨bc, 0, none⟩ (.int .i64 s.cost)).drew) := below_drew ((HBd.out.setCell (p := ⟨bl, 0, none⟩) (by have := HSd.out.o1; show b0 ≤ bl; omega) _).setCell (p := ⟨bc, 0, none⟩) (by have := HSd.out.o1; have := HSd.out.o2; show b0 ≤ bc; omega) _)
      generalize ((W.setCell ⟨bl, 0, none⟩ (.slice A9 s.l.length c9)).setCell ⟨bc, 0, none⟩ (.int .i64 s.cost)).drew = Wg at *
      have hSg := HSd.out.stay hs1
      refine ⟨by simp, .inl ⟨_, _, rfl, run_takeDeferred hK2, ?_⟩⟩
      have hs2 : Stay Wg (Wg.putObj D (.deferred none)) := Stay.turn (grownBy_putObj' Wg D (.deferred none)) (fun r e => by cases e; exact ⟨_, hK2, rfl⟩)
      have hSh := hSg.stay hs2
      have hb1 : Below b0 w (Wg.putObj D (.deferred none)) := hb0.trans (belowK_b (w := w) (by rw [HB0.out]; exact Nat.le_refl _) _ D _ _ (by have := HS4.out.xl.lt; have := HS4.out.o1; have := HB0.out; omega) hK2 rfl rfl)
      have hc1 := hSh.xl.cell
      have hc2 := hSh.xc.cell
      have HR := Aside0.mk (Kd.R_lower hSh.rl (show b0 ≤ bc + 1 by have := hSh.o1; have := hSh.o2; omega))
      clear hSg hSh hs1 hs2 hb0 hxc2 hfc2 hxl hfl hxc hfc hxn hK2
      generalize Wg.putObj D (.deferred none) = Wf at *
      exact ⟨.tuple #[.slice A9 s.l.length c9, .int .i64 s.cost, .int .i64 0], by simp [results, Try.results42, go_sem, hc1, hc2], _, rfl, HR.out, hb1⟩
  case stop =>
    rintro D c pre W _ _ h _
    exact h.elim
theorem needs_err {ex : Int} {hs : List S73} {cs : List S75} {t a b : List Int} {e : Int} (h : corner_Needs.f 16 ex hs cs t = some (a, b, e)) (he : e ≠ 0) : a = [] ∧ b = [] := by
  unfold corner_Needs.f at h
  obtain ⟨x, hx, h⟩ := Option.bind_eq_some_iff.1 h
  split at h
  · obtain ⟨y, hy, h⟩ := Option.bind_eq_some_iff.1 h
    split at h
    · obtain ⟨z, hz, h⟩ := Option.bind_eq_some_iff.1 h
      injection h with h
      injection h with e1 e2
      injection e2 with e2 e3
      exact absurd e3.symm he
    · injection h with h
      injection h with e1 e2
      injection e2 with e2 e3
      exact ⟨e1.symm, e2.symm⟩
  · injection h with h
    injection h with e1 e2
    injection e2 with e2 e3
    exact ⟨e1.symm, e2.symm⟩
set_option maxHeartbeats 2000000 in
set_option maxRecDepth 100000 in
theorem settle_err (a0_0 : Int) (A0_1 : Option Addr) (c0_1 : Nat) (l0_1 : List (S73)) (A0_2 : Option Addr) (c0_2 : Nat) (l0_2 : List (S75)) (A1 : Option Addr) (c1 : Nat) (l1 : List Int) (er : Int) (w : World) (hr0_1 : Kd.C k73 w A0_1 l0_1.length l0_1) (hc0_1 : l0_1.length ≤ c0_1) (hr0_2 : Kd.C k75 w A0_2 l0_2.length l0_2) (hc0_2 : l0_2.length ≤ c0_2) (hr1 : Kd.C (Kd.int .i64) w A1 l1.length l1) (hc1 : l1.length ≤ c1) (hn : corner_Needs.f 16 a0_0 l0_1 l0_2 l1 = some ([], [], er)) (her : er ≠ 0) :
    Calls Try.prog 42 #[.agg #[.int .i64 a0_0, .slice A0_1 l0_1.length c0_1, .slice A0_2 l0_2.length c0_2], .slice A1 l1.length c1] w fun e w' => ∃ v0_ : Value, e = .returned (.tuple #[v0_, .int .i64 0, .int .i64 er]) ∧ Kd.R k71 71 w' w.heap.size (fun _ => True) v0_ [] ∧ Below w.heap.size w w' := by
  have hu26 := Try.underlying26
  have hu35 := Try.underlying35
  have hne : (er == 0) = false := beq_eq_false_iff_ne.2 her
  have HN := Aside0.mk hn
  have M1 := Aside0.mk hr0_1
  have M2 := Aside0.mk hr0_2
  have M3 := Aside0.mk hr1
  have C1 := Aside0.mk hc0_1
  have C2 := Aside0.mk hc0_2
  have C3 := Aside0.mk hc1
  clear hn her hr0_1 hr0_2 hr1 hc0_1 hc0_2 hc1
  refine (callsIn_wide (n := 3)).1 ?_
  refine callsIn_of_wp Try.func42 rfl trivial ?_ rfl
  simp only [Try.ntmps42, List.size_toArray, List.length_cons, List.length_nil, Nat.reduceAdd, Nat.reduceSub, Array.replicate_succ, Array.replicate_zero, List.push_toArray, List.append_toArray, List.nil_append, List.cons_append]
  refine wpIn_seq (wpIn_wide.2 ?_)
  go_wp2_with fail
  have hb1 : Below w.heap.size w (((w.alloc (.cells #[.int .i64 a0_0, .slice A0_1 l0_1.length c0_1, .slice A0_2 l0_2.length c0_2] 35)).alloc (.cells #[.slice none 0 0] 65)).alloc (.cells #[.int .i64 0] 3)) := (((Below.refl _ _).alloc (Nat.le_refl _) _).alloc (by simp) _).alloc (by simp; omega) _
  have hx0 : (((w.alloc (.cells #[.int .i64 a0_0, .slice A0_1 l0_1.length c0_1, .slice A0_2 l0_2.length c0_2] 35)).alloc (.cells #[.slice none 0 0] 65)).alloc (.cells #[.int .i64 0] 3)).heap[w.heap.size]? = some (.cells #[.int .i64 a0_0, .slice A0_1 l0_1.length c0_1, .slice A0_2 l0_2.length c0_2] 35 (0, 0)) := blk_old (blk_old (blk_new _ _) _) _
  have hx1 : (((w.alloc (.cells #[.int .i64 a0_0, .slice A0_1 l0_1.length c0_1, .slice A0_2 l0_2.length c0_2] 35)).alloc (.cells #[.slice none 0 0] 65)).alloc (.cells #[.int .i64 0] 3)).heap[w.heap.size + 1]? = some (.cells #[.slice none 0 0] 65 (0, 0)) := blk_old (by have := blk_new (w.alloc (.cells #[.int .i64 a0_0, .slice A0_1 l0_1.length c0_1, .slice A0_2 l0_2.length c0_2] 35)) (.cells #[.slice none 0 0] 65); rwa [World.size_alloc] at this) _
  have hx2 : (((w.alloc (.cells #[.int .i64 a0_0, .slice A0_1 l0_1.length c0_1, .slice A0_2 l0_2.length c0_2] 35)).alloc (.cells #[.slice none 0 0] 65)).alloc (.cells #[.int .i64 0] 3)).heap[w.heap.size + 1 + 1]? = some (.cells #[.int .i64 0] 3 (0, 0)) := by have := blk_new ((w.alloc (.cells #[.int .i64 a0_0, .slice A0_1 l0_1.length c0_1, .slice A0_2 l0_2.length c0_2] 35)).alloc (.cells #[.slice none 0 0] 65)) (.cells #[.int .i64 0] 3); rwa [World.size_alloc, World.size_alloc] at this
  have hz1 : (((w.alloc (.cells #[.int .i64 a0_0, .slice A0_1 l0_1.length c0_1, .slice A0_2 l0_2.length c0_2] 35)).alloc (.cells #[.slice none 0 0] 65)).alloc (.cells #[.int .i64 0] 3)).heap.size = w.heap.size + 1 + 1 + 1 := by simp
  generalize ((w.alloc (.cells #[.int .i64 a0_0, .slice A0_1 l0_1.length c0_1, .slice A0_2 l0_2.length c0_2] 35)).alloc (.cells #[.slice none 0 0] 65)).alloc (.cells #[.int .i64 0] 3) = W1 at *
  obtain ⟨b0, HB0⟩ : ∃ b0, Aside0 (w.heap.size = b0) := ⟨_, ⟨rfl⟩⟩
  obtain ⟨bl, HBL⟩ : ∃ bl, Aside0 (b0 + 1 = bl) := ⟨_, ⟨rfl⟩⟩
  obtain ⟨bc, HBC⟩ : ∃ bc, Aside0 (bl + 1 = bc) := ⟨_, ⟨rfl⟩⟩
  rw [HB0.out] at hx0 hx1 hx2 hz1 ⊢
  rw [HBL.out] at hx1 hx2 hz1 ⊢
  rw [HBC.out] at hx2 hz1 ⊢
  have HB1 := Aside0.mk hb1
  have HZ1 := Aside0.mk hz1
  have HX0 := Aside0.mk hx0
  have HX1 := Aside0.mk hx1
  have HX2 := Aside0.mk hx2
  have k0 : W1.cell? ⟨b0, 0, none⟩ = some (.int .i64 a0_0) := by simp [World.cell?, hx0]
  have k1 : W1.cell? ⟨b0, 1, none⟩ = some (.slice A0_1 l0_1.length c0_1) := by simp [World.cell?, hx0]
  have k2 : W1.cell? ⟨b0, 2, none⟩ = some (.slice A0_2 l0_2.length c0_2) := by simp [World.cell?, hx0]
  clear hb1 hx0 hx1 hx2 hz1
  refine wpIn_seq (wpIn_wide.2 ?_)
  go_wp2_with fail
  refine (corner_Needs.calls 16 a0_0 A0_1 c0_1 l0_1 A0_2 c0_2 l0_2 A1 c1 l1 [] [] er W1 (Kd.C_below M1.out HB1.out) C1.out (Kd.C_below M2.out HB1.out) C2.out (Kd.C_below M3.out HB1.out) C3.out HN.out).mono ?_
  rintro e W2 ⟨v0, v1, rfl, hr0, hr1, hb2⟩
  obtain ⟨A8, c8, rfl⟩ := Kd.R_slice hr0
  obtain ⟨A9, c9, rfl⟩ := Kd.R_slice hr1
  have HB2 := Aside0.mk (HB1.out.trans (hb2.mono HB1.out.size))
  have HX1b := Aside0.mk (blk_below hb2 HX1.out)
  have HX2b := Aside0.mk (blk_below hb2 HX2.out)
  clear hr0 hr1 hb2 k0 k1 k2
  go_wp2_with fail
  have hb3 : Below W2.heap.size W2 ((W2.alloc (.cells #[.slice A8 0 c8] 26)).alloc (.cells #[.slice A9 0 c9] 26)) := ((Below.refl _ _).alloc (Nat.le_refl _) _).alloc (by simp) _
  have HB3 := Aside0.mk (HB2.out.trans (hb3.mono HB2.out.size))
  have HX1c := Aside0.mk (blk_below hb3 HX1b.out)
  have HX2c := Aside0.mk (blk_below hb3 HX2b.out)
  clear hb3
  generalize (W2.alloc (.cells #[.slice A8 0 c8] 26)).alloc (.cells #[.slice A9 0 c9] 26) = W3 at *
  have hxl := Boxed.cell (t := 65) HX1c.out
  have hfl := Boxed.frozen (t := 65) HX1c.out
  have hxc := Boxed.cell (t := 3) HX2c.out
  have hfc := Boxed.frozen (t := 3) HX2c.out
  have hlc : bc ≠ bl := by have := HBC.out; omega
  have hxc2 : (W3.setCell ⟨bl, 0, none⟩ (.slice none 0 0)).cell? ⟨bc, 0, none⟩ = some (.int .i64 0) := by rw [cell_block (Below.heap_setCell W3 ⟨bl, 0, none⟩ _ bc hlc)]; exact hxc
  have hfc2 : (W3.setCell ⟨bl, 0, none⟩ (.slice none 0 0)).frozen? ⟨bc, 0, none⟩ = false := by rw [World.frozen?_setCell]; exact hfc
  refine wpIn_seq (wpIn_wide.2 ?_)
  go_wp2_with fail
  have hb4 : Below b0 w ((W3.setCell ⟨bl, 0, none⟩ (.slice none 0 0)).setCell ⟨bc, 0, none⟩ (.int .i64 0)) := by
    have := HB3.out
    rw [HB0.out] at this
    exact (this.setCell (p := ⟨bl, 0, none⟩) (by have := HBL.out; show b0 ≤ bl; omega) _).setCell (p := ⟨bc, 0, none⟩) (by have := HBC.out; have := HBL.out; show b0 ≤ bc; omega) _
  have hc1 : ((W3.setCell ⟨bl, 0, none⟩ (.slice none 0 0)).setCell ⟨bc, 0, none⟩ (.int .i64 0)).cell? ⟨bl, 0, none⟩ = some (.slice none 0 0) := by
    rw [cell_block (Below.heap_setCell _ ⟨bc, 0, none⟩ _ bl (Ne.symm hlc))]
    exact World.cell?_setCell_same _ _ _ hxl
  have hc2 : ((W3.setCell ⟨bl, 0, none⟩ (.slice none 0 0)).setCell ⟨bc, 0, none⟩ (.int .i64 0)).cell? ⟨bc, 0, none⟩ = some (.int .i64 0) := World.cell?_setCell_same _ _ _ hxc2
  clear hxl hfl hxc hfc hxc2 hfc2
  generalize (W3.setCell ⟨bl, 0, none⟩ (.slice none 0 0)).setCell ⟨bc, 0, none⟩ (.int .i64 0) = Wf at *
  refine bodyPost_ret (v := .tuple #[.slice none 0 0, .int .i64 0, .int .i64 er]) (by simp [results, Try.results42, go_sem, hc1, hc2]) rfl ?_
  exact ⟨_, rfl, Kd.R_nil _ _ _ _ _, hb4⟩
theorem corner_Settle.calls (a0_0 : Int) (A0_1 : Option Addr) (c0_1 : Nat) (l0_1 : List (S73)) (A0_2 : Option Addr) (c0_2 : Nat) (l0_2 : List (S75)) (A1 : Option Addr) (c1 : Nat) (l1 : List Int) (r1 : List (S71)) (r2 : Int) (r3 : Int) (w : World) (hr0_1 : Kd.C k73 w A0_1 l0_1.length l0_1) (hc0_1 : l0_1.length ≤ c0_1) (hr0_2 : Kd.C k75 w A0_2 l0_2.length l0_2) (hc0_2 : l0_2.length ≤ c0_2) (hr1 : Kd.C (Kd.int .i64) w A1 l1.length l1) (hc1 : l1.length ≤ c1) (h : corner_Settle.f a0_0 l0_1 l0_2 l1 = some (r1, r2, r3)) :
    Calls Try.prog 42 #[.agg #[.int .i64 a0_0, .slice A0_1 l0_1.length c0_1, .slice A0_2 l0_2.length c0_2], .slice A1 l1.length c1] w fun e w' => ∃ v0_ : Value, e = .returned (.tuple #[v0_, .int .i64 r2, .int .i64 r3]) ∧ Kd.R k71 71 w' w.heap.size (fun _ => True) v0_ r1 ∧ Below w.heap.size w w' := by
  unfold corner_Settle.f at h
  obtain ⟨⟨nd, sp, er⟩, hn, h⟩ := Option.bind_eq_some_iff.1 h
  injection h with h
  by_cases he : er = 0
  · subst he
    rw [if_pos rfl] at h
    have := settle_walk a0_0 A0_1 c0_1 l0_1 A0_2 c0_2 l0_2 A1 c1 l1 nd sp w hr0_1 hc0_1 hr0_2 hc0_2 hr1 hc1 hn
    dsimp only at h
    rw [h] at this
    exact this
  · rw [if_neg he] at h
    obtain ⟨rfl, rfl⟩ := needs_err hn he
    injection h with e1 e2
    injection e2 with e2 e3
    subst e1 e2 e3
    exact settle_err a0_0 A0_1 c0_1 l0_1 A0_2 c0_2 l0_2 A1 c1 l1 er w hr0_1 hc0_1 hr0_2 hc0_2 hr1 hc1 hn he
end Go.Proofs.Ytgjifkegfbpjkaa.Q
end
