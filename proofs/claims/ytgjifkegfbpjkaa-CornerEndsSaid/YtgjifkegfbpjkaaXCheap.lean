/- Plain laws of the cheapest sets. -/
import Derived.Test.YtgjifkegfbpjkaaXCkSort
import Derived.Test.YtgjifkegfbpjkaaXCkRound
import Derived.RangeFuncNested
import Derived.RangeFuncBox
import Derived.RangeFuncBound
import Derived.RangeFuncCalls
import Derived.RangeFuncLeaves
import Derived.OwnWalkIn
import Derived.TacticsInMore
import Derived.LoopNIn
import Derived.LoopIn
import Derived.Laws.EntriesVeiled
import Derived.Test.YtgjifkegfbpjkaaXQf20
section
namespace Go.Proofs.Ytgjifkegfbpjkaa.Q
set_option linter.unusedVariables false
set_option linter.unusedSimpArgs false
open Go.RowKit Go.Maps Go.Proofs.YtgjifkegfbpjkaaW.PrintWords Go.Proofs.YtgjifkegfbpjkaaW.PrintLast Go.Proofs.YtgjifkegfbpjkaaW.PrintMore
theorem cmp_same (x y : Int) (w : World) : Calls Try.prog 117 #[.int .i64 x, .int .i64 y] w fun e w' => e = .returned (.int .i64 (cmpI x y)) ∧ w' = w :=
  (cmp_calls x y w).mono fun _ _ ⟨h, e⟩ => ⟨h, e.symm⟩
def askI (hs : List S73) (i j : Int) : Int := cmpI (rd_T73 hs i).f2 (rd_T73 hs j).f2
set_option maxHeartbeats 400000 in
set_option maxRecDepth 100000 in
theorem ask_calls (W : World) (bm : Nat) (A1 : Option Addr) (c1 : Nat) (hs : List S73) (m1 : Kd.C k73 W A1 hs.length hs) (hb : W.cell? ⟨bm, 1, none⟩ = some (.slice A1 hs.length c1)) (i j : Nat) (hi : i < hs.length) (hj : j < hs.length) :
    Calls Try.prog 116 #[.int .i64 (i : Int), .int .i64 (j : Int), .pointer (some ⟨bm, 0, none⟩)] W fun e w' => e = .returned (.int .i64 (askI hs i j)) ∧ ∃ q, w' = W.drewN q := by
  have hu35 := Try.underlying35
  have hu73 := Try.underlying73
  have hi' : (i : Int) < (hs.length : Int) := by omega
  have hj' : (j : Int) < (hs.length : Int) := by omega
  have hi0 : (0 : Int) ≤ (i : Int) := by omega
  have hj0 : (0 : Int) ≤ (j : Int) := by omega
  obtain ⟨ad, rfl, -, -, -, h3⟩ := at_T73 m1 (i : Int) (by omega) (by omega)
  obtain ⟨ad', e', -, -, -, k3⟩ := at_T73 m1 (j : Int) (by omega) (by omega)
  cases e'
  unfold askI
  rw [show ((i : Int).toNat) = i from by omega] at h3
  rw [show ((j : Int).toNat) = j from by omega] at k3
  generalize (rd_T73 hs (i : Int)).f2 = x at *
  generalize (rd_T73 hs (j : Int)).f2 = y at *
  clear m1
  generalize hs.length = n at *
  go_enter Try.func116, Try.ntmps116
  go_wp2_with fail
  go_quiet ((go_at_call 117; exact Calls.quiet_of_same (cmp_same _ _ _)))
  go_wp2_with fail
  go_ret
  exact ⟨rfl, _, rfl⟩
attribute [local go_sem] Oper.semAt_some
section
open Go.Proofs Go.Sort
theorem sw_below {α : Type} [Inhabited α] {enc : α → Value} {w W : World} {blk off B : Nat} {dk : Array α} (h : SW enc w blk off dk W) (hB : B ≤ blk) (hw : B ≤ w.heap.size) : RowKit.Below B w W := by
  obtain ⟨n, os, rfl⟩ := h
  refine ⟨rfl, rfl, rfl, ?_, fun k hk => ?_⟩
  · unfold sortWorld
    rw [size_grow]
    have : (putRow enc (Sort.ahead w n) blk off dk).heap.size = w.heap.size := by simp [putRow, mapBlock, Sort.ahead]
    omega
  · unfold sortWorld grow
    have hs : (putRow enc (Sort.ahead w n) blk off dk).heap.size = w.heap.size := by simp [putRow, mapBlock, Sort.ahead]
    show ((putRow enc (Sort.ahead w n) blk off dk).heap ++ os)[k]? = _
    rw [Array.getElem?_append_left (by omega)]
    show (mapBlock (Sort.ahead w n) blk _).heap[k]? = _
    unfold mapBlock
    show (Array.modify w.heap blk _)[k]? = _
    rw [Array.getElem?_modify, if_neg (by omega)]
def ordA (hs : List S73) (hn0 : 0 < hs.length) : Array (Fin hs.length) :=
  letI : Inhabited (Fin hs.length) := ⟨⟨0, hn0⟩⟩
  Sort.insertionSort (ltOf fun i j : Fin hs.length => askI hs i.1 j.1) (Array.ofFn fun i : Fin hs.length => i) 0 hs.length
def ordF (hs : List S73) (hn0 : 0 < hs.length) : List (Fin hs.length) := (ordA hs hn0).toList
def upL (i : Nat) : List Int := (List.range i).map fun (k : Nat) => (k : Int)
theorem upL_length (i : Nat) : (upL i).length = i := by simp [upL]
theorem upL_succ (i : Nat) : upL (i + 1) = upL i ++ [(i : Int)] := by simp [upL, List.range_succ]
theorem upL_get (n j : Nat) (h : j < n) : (nums .i64 (upL n))[j]? = some (.int .i64 (j : Int)) := by
  simp [nums, upL, h]
theorem cmpI_neg (x y : Int) : cmpI x y < 0 ↔ x < y := by
  unfold cmpI
  constructor
  · intro h; split at h
    · assumption
    · split at h <;> omega
  · intro h; rw [if_pos h]; omega
theorem ltOf_ask_iff (hs : List S73) (i j : Fin hs.length) : ltOf (fun i j : Fin hs.length => askI hs i.1 j.1) i j = true ↔ (rd_T73 hs i.1).f2 < (rd_T73 hs j.1).f2 := by
  unfold ltOf
  refine Iff.trans (decide_eq_true_iff) (cmpI_neg _ _)
theorem ltOf_ask (hs : List S73) : SWO (ltOf fun i j : Fin hs.length => askI hs i.1 j.1) := by
  have hf : ∀ i j : Fin hs.length, ltOf (fun i j : Fin hs.length => askI hs i.1 j.1) i j = false ↔ ¬ (rd_T73 hs i.1).f2 < (rd_T73 hs j.1).f2 := fun i j => by
    rw [← ltOf_ask_iff]; simp
  constructor
  · intro x; rw [hf]; omega
  · intro x y z; rw [ltOf_ask_iff, ltOf_ask_iff, ltOf_ask_iff]; omega
  · intro x y z; rw [hf, hf, hf]; omega
theorem ord_perm (hs : List S73) (hn0 : 0 < hs.length) : (ordF hs hn0).Perm (Array.ofFn fun i : Fin hs.length => i).toList ∧ (ordA hs hn0).size = hs.length := by
  letI : Inhabited (Fin hs.length) := ⟨⟨0, hn0⟩⟩
  obtain ⟨⟨h1, -, h3⟩, -⟩ := Sort.insertionSort_holds (ltOf_ask hs) (Array.ofFn fun i : Fin hs.length => i) 0 hs.length (Nat.zero_le _) (by simp)
  have hs' : (ordA hs hn0).size = hs.length := by refine Eq.trans h1 ?_; simp
  refine ⟨?_, hs'⟩
  have ex : ∀ (A : Array (Fin hs.length)) (m : Nat), A.size = m → A.extract 0 m = A := fun A m h => by subst h; simp
  have e1 : ((ordA hs hn0).extract 0 hs.length) = ordA hs hn0 := ex _ _ hs'
  have e2 : ((Array.ofFn fun i : Fin hs.length => i).extract 0 hs.length) = Array.ofFn fun i : Fin hs.length => i := ex _ _ (by simp)
  have h3' : ((ordA hs hn0).extract 0 hs.length).toList.Perm ((Array.ofFn fun i : Fin hs.length => i).extract 0 hs.length).toList := h3
  rw [e1, e2] at h3'
  exact h3'
theorem sortF (W0 W : World) (bm : Nat) (A1 : Option Addr) (c1 : Nat) (hs : List S73) (hn0 : 0 < hs.length) (hn6 : hs.length ≤ 6) (m1 : Kd.C k73 W0 A1 hs.length hs) (hb : W0.cell? ⟨bm, 1, none⟩ = some (.slice A1 hs.length c1)) (hB : RowKit.Below W0.heap.size W0 W)
    (g cap : Nat) (ho : W.ownsRow W0.heap.size 3 1 (.slice (some ⟨g, 0, none⟩) hs.length cap) hs.length (nums .i64 (upL hs.length))) :
    letI : Inhabited (Fin hs.length) := ⟨⟨0, hn0⟩⟩
    Calls Try.prog 115 #[.slice (some ⟨g, 0, none⟩) hs.length cap, .func (.func 116) #[] #[.pointer (some ⟨bm, 0, none⟩)]] W fun e w' => e = .returned (.tuple #[]) ∧ RowKit.Below W0.heap.size W0 w' ∧ W.heap.size ≤ w'.heap.size ∧
      ∀ (j : Nat) (x : Fin hs.length), (ordF hs hn0)[j]? = some x → w'.cell? ⟨g, j, none⟩ = some (.int .i64 (x.1 : Int)) := by
  letI : Inhabited (Fin hs.length) := ⟨⟨0, hn0⟩⟩
  have hg := (own_base ho g (by simp [Value.ownBlock]))
  have hlt := (own_lt ho g (by simp [Value.ownBlock]))
  have hds : (Array.ofFn fun i : Fin hs.length => i).size = hs.length := by simp
  have R : Row1 (fun x : Fin hs.length => Value.int .i64 (x.1 : Int)) W g 0 (Array.ofFn fun i : Fin hs.length => i) := by
    refine ⟨fun x => rfl, fun j hj => ?_, hlt⟩
    rw [hds] at hj
    refine ⟨?_, ?_⟩
    · rw [Nat.zero_add, ho.cellAt j (by simpa using hj), upL_get _ _ hj, getElem!_pos _ j (by simpa using hj)]
      simp
    · rw [Nat.zero_add]; exact ho.frozenAt j
  have hc : CmpLays1 Try.prog 116 #[.pointer (some ⟨bm, 0, none⟩)] (fun x : Fin hs.length => Value.int .i64 (x.1 : Int)) (fun i j => askI hs i.1 j.1) g 0 (Array.ofFn fun i : Fin hs.length => i).size W := by
    refine CmpReads.lays fun m os dk hdk x y => ?_
    have hb2 : RowKit.Below W0.heap.size W0 (sortWorld (fun x : Fin hs.length => Value.int .i64 (x.1 : Int)) W g 0 m dk os) := hB.trans (sw_below ⟨m, os, rfl⟩ hg hB.size)
    exact ask_calls _ bm A1 c1 hs (Kd.C_below m1 hb2) (pw_cell_below hb2 hb) x.1 y.1 x.2 y.2
  have h := sortStable (fun x : Fin hs.length => Value.int .i64 (x.1 : Int)) (fun i j => askI hs i.1 j.1) 116 #[.pointer (some ⟨bm, 0, none⟩)] g 0 cap (Array.ofFn fun i : Fin hs.length => i) W (enters_of Try.func116 (by kernel_rfl) rfl) hc R (by rw [hds]; omega)
  rw [hds] at h
  refine h.mono ?_
  rintro e w' ⟨rfl, hS⟩
  have hbw := sw_below (B := W0.heap.size) hS hg hB.size
  refine ⟨rfl, hB.trans hbw, hbw.size, fun j x hx => ?_⟩
  have hsz := (ord_perm hs hn0).2
  have hj : j < (ordA hs hn0).size := by
    have := (List.getElem?_eq_some_iff.1 hx).1
    simpa [ordF] using this
  have := SW.c1 (d0 := Array.ofFn fun i : Fin hs.length => i) hS R (by rw [hds]; exact hsz) j hj
  rw [Nat.zero_add] at this
  rw [this, getElem!_pos _ j hj]
  have : (ordA hs hn0)[j] = x := by
    have e := List.getElem?_eq_some_iff.1 hx
    obtain ⟨h1, h2⟩ := e
    rw [← h2]; simp [ordF]
  show some (Value.int .i64 ((ordA hs hn0)[j].1 : Int)) = _
  rw [this]
end
def KpS (B bl : Nat) (W W' : World) : Prop := ∀ (b o : Nat) (v : Value), B ≤ b → W.cell? ⟨b, o, none⟩ = some v → (∀ u, W.cell? ⟨bl, 0, none⟩ = some u → some b ≠ u.ownBlock) → W'.cell? ⟨b, o, none⟩ = some v ∧ ∀ u, W'.cell? ⟨bl, 0, none⟩ = some u → some b ≠ u.ownBlock
theorem KpS.trans {B bl : Nat} {X Y Z : World} (h : KpS B bl X Y) (k : KpS B bl Y Z) : KpS B bl X Z := fun b o v hb hc hu => by
  obtain ⟨h1, h2⟩ := h b o v hb hc hu
  exact k b o v hb h1 h2
def YPost {α : Type} (J Jx : List α → World → Prop) (xs : List α) (e : Ending) (W' : World) : Prop := (∃ v, e = .returned v) ∧ ((∃ ys, ys = xs ∧ J ys W') ∨ (∃ pre, pre <+: xs ∧ Jx pre W'))
theorem own_some {W : World} {base : Nat} {e : TypeId} {size : Nat} {v : Value} {n : Nat} {xs : List Value} (h : W.ownsRow base e size v n xs) (h0 : 0 < n) : ∃ g cap, v = .slice (some ⟨g, 0, none⟩) n cap := by
  obtain ⟨p, rfl⟩ : ∃ p, n = p + 1 := ⟨n - 1, by omega⟩
  exact ownsRow_succ h
theorem take_snoc' {α : Type} (l : List α) (i : Nat) (x : α) (h : l[i]? = some x) : l.take (i + 1) = l.take i ++ [x] := by
  rw [List.take_add_one, h]; rfl
set_option maxHeartbeats 2000000 in
set_option maxRecDepth 100000 in
theorem cheap1 (W : World) (l n bm bl B : Nat) (A1 : Option Addr) (c1 : Nat) (hs : List S73) (hn0 : 0 < hs.length) (hn6 : hs.length ≤ 6) (m1 : Kd.C k73 W A1 hs.length hs) (hb : W.cell? ⟨bm, 1, none⟩ = some (.slice A1 hs.length c1)) (hl : W.cell? ⟨bl, 0, none⟩ = some (.slice none 0 0)) (hB : B ≤ W.heap.size)
    (J Jx : List (Fin hs.length) → World → Prop) (hJ : AbidesFrom W.heap.size J)
    (hY : ∀ pre x W1, J pre W1 → pre.length < hs.length → YieldAt Fence.wide (n - 1) Try.prog l #[Value.int .i64 (x.1 : Int)] W1 fun e W' =>
      (e = .returned (.bool true) ∧ J (pre ++ [x]) W' ∧ KpS B bl W1 W') ∨ (e = .returned (.bool false) ∧ Jx (pre ++ [x]) W')) (h0 : J [] W) :
    CallsIn Fence.wide n Try.prog 114 #[.func (.yield l) #[] #[], .pointer (some ⟨bm, 0, none⟩)] W (YPost J Jx (ordF hs hn0)) := by
  have hu35 := Try.underlying35
  have M1 := Aside0.mk m1
  have HJ := Aside0.mk hJ
  have HY := Aside0.mk hY
  have H0 := Aside0.mk h0
  have HL := Aside0.mk hl
  have HBB := Aside0.mk hB
  have HM := Aside0.mk hb
  clear m1 hJ hY h0 hl hB
  refine callsIn_of_wp Try.func114 rfl trivial ?_ rfl
  simp only [Try.ntmps114, List.size_toArray, List.length_cons, List.length_nil, Nat.reduceAdd, Nat.reduceSub, Array.replicate_succ, Array.replicate_zero, List.push_toArray, List.append_toArray, List.nil_append, List.cons_append]
  refine wpIn_seq (wpIn_wide.2 ?_)
  go_wp2_with fail
  refine wpIn_seq (wpIn_wide.2 ?_)
  go_wp2_with fail
  go_loopw [3, 10] (fun v3 v10 wr => ∃ i : Nat, v10 = .int .i64 i ∧ i ≤ hs.length ∧ Aside0 (wr.ownsRow W.heap.size 3 1 v3 (upL i).length (nums .i64 (upL i))) ∧ Aside0 (Below W.heap.size W wr))
    (fun _ v10 _ => hs.length - (intOf v10).toNat)
  case atStart => exact ⟨0, rfl, Nat.zero_le _, ⟨own_nil _ _ _ _⟩, ⟨Below.refl _ _⟩⟩
  case round =>
    obtain ⟨i, rfl, hil, HO, HB⟩ := hrel
    by_cases hlt : i < hs.length
    · have hil' : (i : Int) < (hs.length : Int) := by omega
      have hsz := HB.out.size
      go_wp2_with (first
        | ((with_reducible refine gate_builtin (b := .append) (xs := #[.tmp 13, .tmp 15]) rfl ?_); at_builtin; refine print_append_num (w0 := wr) W.heap.size rfl (.tmp 13) (.tmp 15) 26 3 .i64 8 rfl Try.underlying26 info3 (by decide) u3 (upL i) (i : Int) rfl rfl HO.out (Below.refl _ _) hsz (by rw [upL_length]; omega) ?_; intro v1 w1 ho hb hg hat; have HO1 := Aside0.mk ho; have HB1 := Aside0.mk (HB.out.trans hb); clear ho hb hg hat))
      go_roundw
      case rel => exact ⟨i + 1, by go_num, hlt, ⟨by rw [upL_succ]; exact HO1.out⟩, HB1⟩
      case measure => simp [intOf]; omega
    · obtain rfl : i = hs.length := by omega
      go_wp2_with fail
      have hon := HO.out
      rw [upL_length] at hon
      obtain ⟨g, cap, rfl⟩ := own_some hon hn0
      have HON := Aside0.mk hon
      have HSF := Aside0.mk (sortF W wr bm A1 c1 hs hn0 hn6 M1.out HM.out HB.out g cap hon)
      clear hon HO
      refine wpIn_seq (wpIn_wide.2 ?_)
      go_wp2_with fail
      refine HSF.out.mono ?_
      rintro e w5 ⟨rfl, hb5, hz5, hc5⟩
      have HB5 := Aside0.mk hb5
      have HC5 := Aside0.mk hc5
      have HJ5 := Aside0.mk (HJ.out [] W w5 none H0.out (grown_of_below hb5 none) (by simp))
      have HU5 : Aside0 (∀ u, w5.cell? ⟨bl, 0, none⟩ = some u → some g ≠ u.ownBlock) := ⟨by
        intro u hu
        rw [pw_cell_below hb5 HL.out] at hu
        injection hu with hu
        rw [← hu]
        simp [Value.ownBlock]⟩
      have HG : Aside0 (W.heap.size ≤ g) := ⟨own_base HON.out g (by simp [Value.ownBlock])⟩
      have HLEN : Aside0 ((ordF hs hn0).length = hs.length) := ⟨by have := (ord_perm hs hn0).2; simpa [ordF] using this⟩
      clear hb5 hc5 hz5 HSF HON HB HJ H0
      generalize ordF hs hn0 = xs at *
      go_wp2_with fail
      refine wpIn_seq (wpIn_wide.2 ?_)
      go_wp2_with fail
      gi_wp2
      gi_loopw [23] (fun v23 wr => ∃ i : Nat, v23 = .int .i64 i ∧ i ≤ hs.length ∧ Aside0 (J (xs.take i) wr) ∧ Aside0 (∀ (j : Nat) (x : Fin hs.length), xs[j]? = some x → wr.cell? ⟨g, j, none⟩ = some (.int .i64 (x.1 : Int))) ∧ Aside0 (∀ u, wr.cell? ⟨bl, 0, none⟩ = some u → some g ≠ u.ownBlock))
        (fun v23 _ => hs.length - (intOf v23).toNat)
      case atStart => exact ⟨0, rfl, Nat.zero_le _, HJ5, HC5, HU5⟩
      case round =>
        obtain ⟨i, rfl, hil, HJr, HCr, HUr⟩ := hrel
        have hxs : xs.length = hs.length := HLEN.out
        by_cases hlt : i < hs.length
        · have hil' : (i : Int) < (hs.length : Int) := by omega
          obtain ⟨x, hx⟩ : ∃ x, xs[i]? = some x := ⟨xs[i]'(by omega), List.getElem?_eq_getElem _⟩
          have hcell := HCr.out i x hx
          obtain ⟨fn, tmps, assign, body, hy, hR⟩ := HY.out (xs.take i) x wr HJr.out (by rw [List.length_take]; omega)
          have HR := Aside0.mk hR
          have HX := Aside0.mk hx
          have HC0 := Aside0.mk hcell
          clear hR hx hxs
          gi_wp2
          refine ⟨fun h => by simp [Fence.wide] at h, ?_⟩
          refine HR.out.mono ?_
          rintro e W3 (⟨rfl, hJ3, hk3⟩ | ⟨rfl, hJx3⟩)
          · have HJ3 := Aside0.mk hJ3
            have HK3 := Aside0.mk hk3
            clear hJ3 hk3 hcell hy
            gi_wp2
            go_roundw
            case rel =>
              refine ⟨i + 1, by go_num, hlt, ⟨by rw [take_snoc' _ _ _ HX.out]; exact HJ3.out⟩, ⟨fun j y hy => ?_⟩, ⟨?_⟩⟩
              · exact (HK3.out g j _ (Nat.le_trans HBB.out HG.out) (HCr.out j y hy) HUr.out).1
              · exact (HK3.out g i _ (Nat.le_trans HBB.out HG.out) HC0.out HUr.out).2
            case measure => simp [intOf]; omega
          · have HJx3 := Aside0.mk hJx3
            clear hJx3 hcell hy
            gi_wp2
            refine bodyPost_ret (results_none rfl _ _ _) rfl ?_
            exact ⟨⟨_, rfl⟩, .inr ⟨xs.take (i + 1), List.take_prefix _ _, by rw [take_snoc' _ _ _ HX.out]; exact HJx3.out⟩⟩
        · obtain rfl : i = hs.length := by omega
          gi_wp2
          go_end0
          exact ⟨⟨_, rfl⟩, .inl ⟨xs, rfl, by have := HJr.out; rwa [List.take_of_length_le (by omega)] at this⟩⟩
theorem cheap_stops (w : World) (n bm bl B : Nat) (A1 : Option Addr) (c1 : Nat) (hs : List S73) (hn0 : 0 < hs.length) (hn6 : hs.length ≤ 6) (m1 : Kd.C k73 w A1 hs.length hs) (hb : w.cell? ⟨bm, 1, none⟩ = some (.slice A1 hs.length c1)) (hl : w.cell? ⟨bl, 0, none⟩ = some (.slice none 0 0)) (hB : B ≤ w.heap.size) :
    SeqStopsK Fence.wide n Try.prog 114 #[.pointer (some ⟨bm, 0, none⟩)] (fun x : Fin hs.length => #[Value.int .i64 (x.1 : Int)]) (KpS B bl) (fun ys => ys = ordF hs hn0) (fun pre => pre <+: ordF hs hn0) hs.length w :=
  fun l J Jx W hW hJ _ hY h0 => cheap1 W l n bm bl B A1 c1 hs hn0 hn6 (Kd.C_below m1 hW) (pw_cell_below hW hb) (pw_cell_below hW hl) (Nat.le_trans hB hW.size) J Jx hJ hY h0
set_option maxHeartbeats 400000 in
theorem cheap_calls (e : Int) (A1 : Option Addr) (c1 n1 : Nat) (A2 : Option Addr) (c2 n2 : Nat) (w : World) :
    Calls Try.prog 88 #[.agg #[.int .i64 e, .slice A1 n1 c1, .slice A2 n2 c2]] w fun r w' => r = .returned (.func (.func 114) #[] #[.pointer (some ⟨w.heap.size, 0, none⟩)]) ∧ w' = w.alloc (.cells #[.int .i64 e, .slice A1 n1 c1, .slice A2 n2 c2] 35) := by
  go_enter Try.func88, Try.ntmps88
  go_wp2_with fail
  go_ret
  exact ⟨rfl, rfl⟩
end Go.Proofs.Ytgjifkegfbpjkaa.Q
end
section
namespace Go.Proofs.Ytgjifkegfbpjkaa.Q
set_option linter.unusedVariables false
set_option linter.unusedSimpArgs false
open Go.RowKit Go.Maps Go.Proofs.YtgjifkegfbpjkaaW.PrintWords Go.Proofs.YtgjifkegfbpjkaaW.PrintLast Go.Proofs.YtgjifkegfbpjkaaW.PrintMore
theorem blk_new (W : World) (o : Obj) : (W.alloc o).heap[W.heap.size]? = some o := World.alloc_heap_new W o
theorem blk_old {W : World} {k : Nat} {x : Obj} (h : W.heap[k]? = some x) (o : Obj) : (W.alloc o).heap[k]? = some x := (Below.heap_alloc W o k (Array.getElem?_eq_some_iff.1 h).1).trans h
theorem blk_below {W W' : World} {k : Nat} {x : Obj} (hb : Below W.heap.size W W') (h : W.heap[k]? = some x) : W'.heap[k]? = some x := (hb.block k (Array.getElem?_eq_some_iff.1 h).1).trans h
theorem blk_lt {W : World} {k : Nat} {x : Obj} (h : W.heap[k]? = some x) : k < W.heap.size := (Array.getElem?_eq_some_iff.1 h).1
theorem R71_move {W W1 : World} {base : Nat} {v : Value} {l : List S71} (h : Kd.R k71 71 W base (fun _ => True) v l) (hm : ∀ k cells, base ≤ k → W.heap[k]? = some (.cells cells 71 (0, 0)) → W1.heap[k]? = W.heap[k]?) : Kd.R k71 71 W1 base (fun _ => True) v l := by
  refine Kd.R_mono (Kd.R_move (Kd.R_bound h) fun k hk => ?_) (fun _ _ => trivial)
  obtain ⟨-, h1, h2, q, hq, cells, hc⟩ := hk
  have hE : k71.E = [] := rfl
  rw [hE] at hq
  obtain rfl := List.mem_singleton.1 hq
  exact hm k cells h1 hc
def Stay (W W1 : World) : Prop := ∀ (k : Nat) (o : Obj), W.heap[k]? = some o → o.isCells = true → W1.heap[k]? = some o
theorem Stay.below {W W1 : World} (h : Below W.heap.size W W1) : Stay W W1 := fun k o hk _ => blk_below h hk
theorem Stay.turn {W W1 : World} {row : Option Nat} (hg : W.grownBy W1 row) (hr : ∀ r, row = some r → ∃ o : Obj, W.heap[r]? = some o ∧ o.isCells = false) : Stay W W1 := fun k o hk ho => by
  refine (hg.block k (blk_lt hk) ?_).trans hk
  intro e
  obtain ⟨o', ho', hc⟩ := hr k e.symm
  rw [hk] at ho'
  injection ho' with ho'
  rw [ho', hc] at ho
  cases ho
theorem own_stay {W W1 : World} {base : Nat} {e : TypeId} {size n : Nat} {v : Value} {xs : List Value} (h : W.ownsRow base e size v n xs) (hs : Stay W W1) : W1.ownsRow base e size v n xs :=
  own_move h fun k hk => by
    obtain ⟨cells, hc⟩ := own_typed h k hk
    rw [hc]; exact hs k _ hc rfl
theorem R71_stay {W W1 : World} {base : Nat} {v : Value} {l : List S71} (h : Kd.R k71 71 W base (fun _ => True) v l) (hs : Stay W W1) : Kd.R k71 71 W1 base (fun _ => True) v l :=
  R71_move h fun k cells _ hc => by rw [hc]; exact hs k _ hc rfl
structure St (b0 bl bc bn bs : Nat) (mk : Array Value) (g1 q1 g2 q2 n : Nat) (lv : Value) (l : List S71) (cost : Int) (nd sp : List Int) (W : World) : Prop where
  m : W.heap[b0]? = some (.cells mk 35 (0, 0))
  xl : Boxed W bl 65 lv
  xc : Boxed W bc 3 (.int .i64 cost)
  xn : Boxed W bn 26 (.slice (some ⟨g1, 0, none⟩) n q1)
  xs : Boxed W bs 26 (.slice (some ⟨g2, 0, none⟩) n q2)
  rl : Kd.R k71 71 W (bc + 1) (fun _ => True) lv l
  rn : W.ownsRow (bc + 1) 3 1 (.slice (some ⟨g1, 0, none⟩) n q1) n (nums .i64 nd)
  rs : W.ownsRow (bc + 1) 3 1 (.slice (some ⟨g2, 0, none⟩) n q2) n (nums .i64 sp)
  ne : g1 ≠ g2
  o1 : b0 < bl
  o2 : bl < bc
  o3 : bc < bn
  o4 : bn < bs
  ln : nd.length = n
  ls : sp.length = n
section
variable {b0 bl bc bn bs : Nat} {mk : Array Value} {g1 q1 g2 q2 n : Nat} {lv : Value} {l : List S71} {cost : Int} {nd sp : List Int} {W W1 : World}
theorem St.stay (h : St b0 bl bc bn bs mk g1 q1 g2 q2 n lv l cost nd sp W) (hs : Stay W W1) : St b0 bl bc bn bs mk g1 q1 g2 q2 n lv l cost nd sp W1 :=
  { h with m := hs _ _ h.m rfl, xl := hs _ _ h.xl rfl, xc := hs _ _ h.xc rfl, xn := hs _ _ h.xn rfl, xs := hs _ _ h.xs rfl, rl := R71_stay h.rl hs, rn := own_stay h.rn hs, rs := own_stay h.rs hs }
theorem St.g1b (h : St b0 bl bc bn bs mk g1 q1 g2 q2 n lv l cost nd sp W) : bc + 1 ≤ g1 := own_base h.rn g1 (by simp [Value.ownBlock])
theorem St.g2b (h : St b0 bl bc bn bs mk g1 q1 g2 q2 n lv l cost nd sp W) : bc + 1 ≤ g2 := own_base h.rs g2 (by simp [Value.ownBlock])
theorem St.g1c (h : St b0 bl bc bn bs mk g1 q1 g2 q2 n lv l cost nd sp W) : ∃ c, W.heap[g1]? = some (.cells c 3 (0, 0)) := own_typed h.rn g1 (by simp [Value.ownBlock])
theorem St.g2c (h : St b0 bl bc bn bs mk g1 q1 g2 q2 n lv l cost nd sp W) : ∃ c, W.heap[g2]? = some (.cells c 3 (0, 0)) := own_typed h.rs g2 (by simp [Value.ownBlock])
theorem typed_ne {W : World} {a b : Nat} {c c' : Array Value} {t t' : TypeId} (h : W.heap[a]? = some (.cells c t (0, 0))) (h' : W.heap[b]? = some (.cells c' t' (0, 0))) (ht : t ≠ t') : a ≠ b := by
  rintro rfl
  rw [h] at h'
  injection h' with h'
  injection h' with _ h'
  exact ht h'
theorem St.far (h : St b0 bl bc bn bs mk g1 q1 g2 q2 n lv l cost nd sp W) : g1 ≠ bn ∧ g1 ≠ bs ∧ g2 ≠ bn ∧ g2 ≠ bs := by
  obtain ⟨c, hc⟩ := h.g1c
  obtain ⟨c', hc'⟩ := h.g2c
  exact ⟨typed_ne hc h.xn (by decide), typed_ne hc h.xs (by decide), typed_ne hc' h.xn (by decide), typed_ne hc' h.xs (by decide)⟩
theorem St.setC (h : St b0 bl bc bn bs mk g1 q1 g2 q2 n lv l cost nd sp W) (c : Int) : St b0 bl bc bn bs mk g1 q1 g2 q2 n lv l c nd sp (W.setCell ⟨bc, 0, none⟩ (.int .i64 c)) := by
  have hk : ∀ k, k ≠ bc → (W.setCell ⟨bc, 0, none⟩ (.int .i64 c)).heap[k]? = W.heap[k]? := fun k hk => Below.heap_setCell W ⟨bc, 0, none⟩ _ k hk
  have := h.o1; have := h.o2; have := h.o3; have := h.o4; have := h.g1b; have := h.g2b
  refine { h with m := (hk _ (by omega)).trans h.m, xl := (hk _ (by omega)).trans h.xl, xc := Boxed.set _ h.xc, xn := (hk _ (by omega)).trans h.xn, xs := (hk _ (by omega)).trans h.xs, rl := R71_move h.rl fun k cells hb _ => hk k (by omega), rn := own_move h.rn fun k e => hk k ?_, rs := own_move h.rs fun k e => hk k ?_ }
  · have : g1 = k := by simpa [Value.ownBlock] using e
    omega
  · have : g2 = k := by simpa [Value.ownBlock] using e
    omega
theorem nums_set (l : List Int) (j : Nat) (x : Int) : nums .i64 (l.set j x) = (nums .i64 l).set j (.int .i64 x) := by simp [nums, List.map_set]
theorem St.setN (h : St b0 bl bc bn bs mk g1 q1 g2 q2 n lv l cost nd sp W) (j : Nat) (c : Int) : St b0 bl bc bn bs mk g1 q1 g2 q2 n lv l cost (nd.set j c) sp (W.setCell ⟨g1, j, none⟩ (.int .i64 c)) := by
  have hk : ∀ k, k ≠ g1 → (W.setCell ⟨g1, j, none⟩ (.int .i64 c)).heap[k]? = W.heap[k]? := fun k hk => Below.heap_setCell W ⟨g1, j, none⟩ _ k hk
  have := h.o1; have := h.o2; have := h.o3; have := h.o4; have := h.g1b; have := h.g2b
  obtain ⟨f1, f2, f3, f4⟩ := h.far
  refine { h with m := (hk _ (by omega)).trans h.m, xl := (hk _ (by omega)).trans h.xl, xc := (hk _ (by omega)).trans h.xc, xn := (hk _ (Ne.symm f1)).trans h.xn, xs := (hk _ (Ne.symm f2)).trans h.xs, rl := R71_move h.rl fun k cells hb hc => hk k ?_, rn := ?_, rs := own_move h.rs fun k e => hk k ?_, ln := by rw [List.length_set]; exact h.ln }
  · obtain ⟨c', hc'⟩ := h.g1c
    exact typed_ne hc hc' (by decide)
  · rw [nums_set]; exact (h.rn.stored j _).1
  · have e' : g2 = k := by simpa [Value.ownBlock] using e
    have := h.ne; omega
theorem St.setS (h : St b0 bl bc bn bs mk g1 q1 g2 q2 n lv l cost nd sp W) (j : Nat) (c : Int) : St b0 bl bc bn bs mk g1 q1 g2 q2 n lv l cost nd (sp.set j c) (W.setCell ⟨g2, j, none⟩ (.int .i64 c)) := by
  have hk : ∀ k, k ≠ g2 → (W.setCell ⟨g2, j, none⟩ (.int .i64 c)).heap[k]? = W.heap[k]? := fun k hk => Below.heap_setCell W ⟨g2, j, none⟩ _ k hk
  have := h.o1; have := h.o2; have := h.o3; have := h.o4; have := h.g1b; have := h.g2b
  obtain ⟨f1, f2, f3, f4⟩ := h.far
  refine { h with m := (hk _ (by omega)).trans h.m, xl := (hk _ (by omega)).trans h.xl, xc := (hk _ (by omega)).trans h.xc, xn := (hk _ (Ne.symm f3)).trans h.xn, xs := (hk _ (Ne.symm f4)).trans h.xs, rl := R71_move h.rl fun k cells hb hc => hk k ?_, rs := ?_, rn := own_move h.rn fun k e => hk k ?_, ls := by rw [List.length_set]; exact h.ls }
  · obtain ⟨c', hc'⟩ := h.g2c
    exact typed_ne hc hc' (by decide)
  · have e' : g1 = k := by simpa [Value.ownBlock] using e
    have := h.ne; omega
  · rw [nums_set]; exact (h.rs.stored j _).1
theorem St.app (h : St b0 bl bc bn bs mk g1 q1 g2 q2 n lv l cost nd sp W) {v1 : Value} {x : S71} (hr : Kd.R k71 71 W1 (bc + 1) (fun _ => True) v1 (l ++ [x])) (hg : W.grownBy W1 lv.ownBlock) :
    W1.heap[bl]? = some (.cells #[lv] 65 (0, 0)) ∧ St b0 bl bc bn bs mk g1 q1 g2 q2 n v1 (l ++ [x]) cost nd sp (W1.setCell ⟨bl, 0, none⟩ v1) := by
  obtain ⟨inner, ho⟩ := Kd.R_own h.rl
  have hq : ∀ (k : Nat) (c : Array Value) (t : TypeId), W.heap[k]? = some (.cells c t (0, 0)) → t ≠ 71 → W1.heap[k]? = some (.cells c t (0, 0)) := fun k c t hc ht => by
    refine (hg.block k (blk_lt hc) ?_).trans hc
    intro e
    obtain ⟨c', hc'⟩ := own_typed ho k e.symm
    exact typed_ne hc hc' ht rfl
  have xl1 := hq _ _ _ h.xl (by decide)
  have hk : ∀ k, k ≠ bl → (W1.setCell ⟨bl, 0, none⟩ v1).heap[k]? = W1.heap[k]? := fun k hk => Below.heap_setCell W1 ⟨bl, 0, none⟩ _ k hk
  have := h.o1; have := h.o2; have := h.o3; have := h.o4; have := h.g1b; have := h.g2b
  refine ⟨xl1, { h with m := (hk _ (by omega)).trans (hq _ _ _ h.m (by decide)), xl := Boxed.set v1 xl1, xc := (hk _ (by omega)).trans (hq _ _ _ h.xc (by decide)), xn := (hk _ (by omega)).trans (hq _ _ _ h.xn (by decide)), xs := (hk _ (by omega)).trans (hq _ _ _ h.xs (by decide)), rl := R71_move hr fun k cells hb hc => hk k (typed_ne hc xl1 (by decide)), rn := own_move h.rn fun k e => ?_, rs := own_move h.rs fun k e => ?_ }⟩
  · have e' : g1 = k := by simpa [Value.ownBlock] using e
    subst e'
    obtain ⟨c', hc'⟩ := h.g1c
    rw [hk _ (by omega), hq _ _ _ hc' (by decide), hc']
  · have e' : g2 = k := by simpa [Value.ownBlock] using e
    subst e'
    obtain ⟨c', hc'⟩ := h.g2c
    rw [hk _ (by omega), hq _ _ _ hc' (by decide), hc']
end
structure RK (b0 B bl : Nat) (W W' : World) : Prop where
  ko : KeepsOthers W W'
  kp : KpS B bl W W'
  be : Below b0 W W'
theorem RK.trans {b0 B bl : Nat} {X Y Z : World} (h : RK b0 B bl X Y) (k : RK b0 B bl Y Z) : RK b0 B bl X Z := ⟨h.ko.trans k.ko, h.kp.trans k.kp, h.be.trans k.be⟩
theorem cell_block {W W' : World} {a : Addr} (h : W'.heap[a.block]? = W.heap[a.block]?) : W'.cell? a = W.cell? a := World.cell?_of_block h
theorem RK.below {b0 B bl : Nat} {W W' : World} (h : Below W.heap.size W W') (hb : b0 ≤ W.heap.size) (hl : bl < W.heap.size) : RK b0 B bl W W' :=
  ⟨⟨h.size, fun k o hk _ => blk_below h hk⟩, fun b o v _ hc hu => ⟨pw_cell_below h hc, fun u hu' => hu u (by rw [← hu']; exact (cell_block (h.block bl hl)).symm)⟩, h.mono hb⟩
theorem RK.refl {b0 B bl : Nat} (W : World) : RK b0 B bl W W := ⟨KeepsOthers.refl W, fun b o v _ hc hu => ⟨hc, hu⟩, Below.refl _ _⟩
theorem RK.set {b0 B bl : Nat} (W : World) (p : Addr) (v : Value) (h0 : b0 ≤ p.block) (hB : p.block < B) (hl : p.block ≠ bl) : RK b0 B bl W (W.setCell p v) :=
  ⟨KeepsOthers.setCell W p v, fun b o u hb hc hu => ⟨by rw [← hc]; exact cell_block (Below.heap_setCell W p v b (by omega)), fun x hx => hu x (by rw [← hx]; exact (cell_block (Below.heap_setCell W p v bl (Ne.symm hl))).symm)⟩, (Below.refl _ _).setCell h0 v⟩
theorem RK.app {b0 B bl : Nat} {W W1 : World} {lv v1 : Value} {t : TypeId} (hx : W.heap[bl]? = some (.cells #[lv] t (0, 0))) (hx1 : W1.heap[bl]? = some (.cells #[lv] t (0, 0))) (hg : W.grownBy W1 lv.ownBlock) (hat : v1.ownBlock = lv.ownBlock ∨ ∃ b, v1.ownBlock = some b ∧ W.heap.size ≤ b)
    (hr : ∀ k, lv.ownBlock = some k → b0 ≤ k ∧ ∃ c q, W.heap[k]? = some (.cells c q (0, 0))) (h0 : b0 ≤ bl) (hB : bl < B) (hz : b0 ≤ W.heap.size) : RK b0 B bl W (W1.setCell ⟨bl, 0, none⟩ v1) := by
  refine ⟨(KeepsOthers.of_grownBy hg fun j o e hj => ?_).trans (KeepsOthers.setCell _ _ _), fun b o u hb hc hu => ?_, ?_⟩
  · obtain ⟨-, c, q, hq⟩ := hr j e
    rw [hq] at hj; cases hj; rfl
  · have hbl : W.cell? ⟨bl, 0, none⟩ = some lv := Boxed.cell (t := t) hx
    have hne := hu lv hbl
    have hblt := World.block_lt_of_cell? W _ hc
    refine ⟨?_, fun x hx' => ?_⟩
    · rw [show (W1.setCell ⟨bl, 0, none⟩ v1).cell? ⟨b, o, none⟩ = W1.cell? ⟨b, o, none⟩ from cell_block (Below.heap_setCell W1 ⟨bl, 0, none⟩ v1 b (by show b ≠ bl; omega))]
      exact hg.cell hc hne
    · rw [World.cell?_setCell_same _ _ _ (Boxed.cell (t := t) hx1)] at hx'
      injection hx' with hx'
      subst hx'
      rcases hat with e | ⟨b', e, hb'⟩
      · rw [e]; exact hne
      · rw [e]
        intro e'
        injection e' with e'
        have : b < W.heap.size := hblt
        omega
  · exact ((Below.refl _ _).grown hg hz (fun k e => (hr k e).1)).setCell h0 v1
end Go.Proofs.Ytgjifkegfbpjkaa.Q
end
section
namespace Go.Proofs.Ytgjifkegfbpjkaa.Q
set_option linter.unusedVariables false
set_option linter.unusedSimpArgs false
open Go.RowKit Go.Maps Go.Proofs.YtgjifkegfbpjkaaW.PrintWords Go.Proofs.YtgjifkegfbpjkaaW.PrintLast Go.Proofs.YtgjifkegfbpjkaaW.PrintMore
attribute [local go_sem] max2_int min2_int max_two min_two max_three min_three max_four min_four
def maxU (l : List Int) : Nat → Int
  | 0 => l.getD 0 0
  | i + 1 => if maxU l i < l.getD i 0 then l.getD i 0 else maxU l i
def maxL (l : List Int) : Int := maxU l l.length
theorem maxU_one (l : List Int) : maxU l 1 = l.getD 0 0 := by unfold maxU; rw [if_neg (by unfold maxU; omega)]; rfl
set_option maxHeartbeats 400000 in
set_option maxRecDepth 100000 in
theorem sMax (g n cap : Nat) (l : List Int) (hl : l.length = n) (h0 : 0 < n) (hn : n ≤ 1000) (w : World) (hc : ∀ j : Nat, j < n → w.cell? ⟨g, j, none⟩ = some (.int .i64 (l.getD j 0))) :
    Calls Try.prog 90 #[.slice (some ⟨g, 0, none⟩) n cap] w fun e w' => e = .returned (.int .i64 (maxL l)) ∧ w = w' := by
  have HC := Aside0.mk hc
  have hc0 := hc 0 h0
  obtain ⟨y0, HY0⟩ : ∃ y, Aside0 (l.getD 0 0 = y) := ⟨_, ⟨rfl⟩⟩
  rw [HY0.out] at hc0
  have hn1 : (1 : Int) ≤ (n : Int) := by omega
  clear hc
  go_enter Try.func90, Try.ntmps90
  go_wp2_with fail
  go_loop [3, 4] (fun v3 v4 => ∃ i : Nat, 1 ≤ i ∧ i ≤ n ∧ v4 = .int .i64 i ∧ v3 = .int .i64 (maxU l i)) (fun _ v4 => n - (intOf v4).toNat)
  case atStart => exact ⟨1, Nat.le_refl _, h0, by simp, by rw [maxU_one, HY0.out]⟩
  case round =>
    obtain ⟨i, hi1, hi2, rfl, rfl⟩ := hrel
    by_cases hlt : i < n
    · have hci := HC.out i hlt
      obtain ⟨m, HM⟩ : ∃ m, Aside0 (maxU l i = m) := ⟨_, ⟨rfl⟩⟩
      obtain ⟨y, HY⟩ : ∃ y, Aside0 (l.getD i 0 = y) := ⟨_, ⟨rfl⟩⟩
      rw [HY.out] at hci
      rw [HM.out]
      have hlt' : (i : Int) < (n : Int) := by omega
      by_cases hmy : m < y
      · go_wp2_with fail
        all_goals
          go_round
          case rel => exact ⟨i + 1, by omega, by omega, by go_num, by unfold maxU; rw [HM.out, HY.out, if_pos hmy]⟩
          case measure => simp [intOf]; omega
      · go_wp2_with fail
        all_goals
          go_round
          case rel => exact ⟨i + 1, by omega, by omega, by go_num, by unfold maxU; rw [HM.out, HY.out, if_neg hmy]⟩
          case measure => simp [intOf]; omega
    · obtain rfl : i = n := by omega
      go_wp2_with fail
      go_ret
      exact ⟨ret_i64 (by unfold maxL; rw [hl]), rfl⟩
end Go.Proofs.Ytgjifkegfbpjkaa.Q
end
