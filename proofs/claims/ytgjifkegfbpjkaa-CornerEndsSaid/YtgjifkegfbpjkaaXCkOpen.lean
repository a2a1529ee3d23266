/- Laws of reading: arguments of the statements of corner, opened to the kinds of the walks. -/
import Derived.Test.YtgjifkegfbpjkaaXBase
import Derived.Deep.Slices
import Derived.Deep.Fields
import Derived.ChangeSame
import Derived.Lib.SmallJoins
section
namespace Go.Proofs.Ytgjifkegfbpjkaa.Q
set_option linter.unusedVariables false
set_option linter.unusedSimpArgs false
open Go.RowKit Go.Maps Go.Proofs.YtgjifkegfbpjkaaW.PrintWords Go.Proofs.YtgjifkegfbpjkaaW.PrintLast Go.Proofs.YtgjifkegfbpjkaaW.PrintMore
open Go.ChangeShapes Go.WideShapes Go.Deep Go.Joins
section
variable {H : Type} {enc : TypeId × Value → H} {w : World} {base : Nat} {spare : Nat → Bool} {held : Bool}
set_option maxRecDepth 100000 in
theorem open_S53 {n : Nat} {cs : List Value} {x : DataW H × List MemPlace} (h : DataW.trod enc Try.prog w base spare held n 53 cs = some x) : ∃ p : S53, cs = [.int .i64 p.f0, .int .i64 p.f1] := by
  obtain ⟨xs, m, _, _, hl, hx, hg⟩ := DataW.trod_struct Try.underlying53 h
  rw [show Try.prog.cellsOf 53 = 2 by kernel_rfl] at hl
  have hcl : Try.prog.cellsOf 3 = 1 := by kernel_rfl
  match cs, hl with
  | [c0, c1], _ =>
    have g0 : DataW.trod enc Try.prog w base spare held m 3 (List.take (Try.prog.cellsOf 3) (List.drop 0 [c0, c1])) = xs[0]? := hg 0 _ rfl
    have g1 : DataW.trod enc Try.prog w base spare held m 3 (List.take (Try.prog.cellsOf 3) (List.drop 1 [c0, c1])) = xs[1]? := hg 1 _ rfl
    rw [hcl] at g0 g1
    match xs, hx with
    | [y0, y1], _ =>
      obtain ⟨a, ha, _⟩ := DataW.trod_int Try.underlying3 (show DataW.trod enc Try.prog w base spare held m 3 [c0] = some y0 from g0)
      obtain ⟨b, hb, _⟩ := DataW.trod_int Try.underlying3 (show DataW.trod enc Try.prog w base spare held m 3 [c1] = some y1 from g1)
      injection ha with ha
      injection hb with hb
      exact ⟨⟨a, b⟩, by rw [ha, hb]⟩
set_option maxRecDepth 100000 in
theorem open_S88 {n : Nat} {cs : List Value} {x : DataW H × List MemPlace} (h : DataW.trod enc Try.prog w base spare held n 88 cs = some x) : ∃ p : S88, cs = [.int .i64 p.f0.f0, .int .i64 p.f0.f1, .bool p.f1, .int .i64 p.f2] := by
  obtain ⟨xs, m, _, _, hl, hx, hg⟩ := DataW.trod_struct Try.underlying88 h
  rw [show Try.prog.cellsOf 88 = 4 by kernel_rfl] at hl
  have hcl : Try.prog.cellsOf 3 = 1 := by kernel_rfl
  have hcb : Try.prog.cellsOf 4 = 1 := by kernel_rfl
  have hcp : Try.prog.cellsOf 53 = 2 := by kernel_rfl
  match cs, hl with
  | [c0, c1, c2, c3], _ =>
    have g0 : DataW.trod enc Try.prog w base spare held m 53 (List.take (Try.prog.cellsOf 53) (List.drop 0 [c0, c1, c2, c3])) = xs[0]? := hg 0 _ rfl
    have g1 : DataW.trod enc Try.prog w base spare held m 4 (List.take (Try.prog.cellsOf 4) (List.drop 2 [c0, c1, c2, c3])) = xs[1]? := hg 1 _ rfl
    have g2 : DataW.trod enc Try.prog w base spare held m 3 (List.take (Try.prog.cellsOf 3) (List.drop 3 [c0, c1, c2, c3])) = xs[2]? := hg 2 _ rfl
    rw [hcp] at g0
    rw [hcb] at g1
    rw [hcl] at g2
    match xs, hx with
    | [y0, y1, y2], _ =>
      obtain ⟨p, hp⟩ := open_S53 (show DataW.trod enc Try.prog w base spare held m 53 [c0, c1] = some y0 from g0)
      obtain ⟨b, hb, _⟩ := DataW.trod_bool Try.underlying4 (show DataW.trod enc Try.prog w base spare held m 4 [c2] = some y1 from g1)
      obtain ⟨a, ha, _⟩ := DataW.trod_int Try.underlying3 (show DataW.trod enc Try.prog w base spare held m 3 [c3] = some y2 from g2)
      injection ha with ha
      injection hb with hb
      injection hp with h0 hp
      injection hp with h1 hp
      exact ⟨⟨p, b, a⟩, by rw [ha, hb, h0, h1]⟩
set_option maxRecDepth 100000 in
theorem open_ints3 {t n : Nat} {cs : List Value} {x : DataW H × List MemPlace} {fs : Array Field} (hu : Try.prog.underlying t = some (.struct fs)) (hc : Try.prog.cellsOf t = 3) (hf : ∃ g0 g1 g2 : Field, fs = #[g0, g1, g2] ∧ g0.type = 3 ∧ g1.type = 3 ∧ g2.type = 3 ∧ g0.offset = 0 ∧ g1.offset = 1 ∧ g2.offset = 2)
    (h : DataW.trod enc Try.prog w base spare held n t cs = some x) : ∃ a b c : Int, cs = [.int .i64 a, .int .i64 b, .int .i64 c] := by
  obtain ⟨g0, g1, g2, rfl, t0, t1, t2, o0, o1, o2⟩ := hf
  obtain ⟨xs, m, _, _, hl, hx, hg⟩ := DataW.trod_struct hu h
  rw [hc] at hl
  have hcl : Try.prog.cellsOf 3 = 1 := by kernel_rfl
  match cs, hl with
  | [c0, c1, c2], _ =>
    have h0 : DataW.trod enc Try.prog w base spare held m g0.type (List.take (Try.prog.cellsOf g0.type) (List.drop g0.offset [c0, c1, c2])) = xs[0]? := hg 0 _ rfl
    have h1 : DataW.trod enc Try.prog w base spare held m g1.type (List.take (Try.prog.cellsOf g1.type) (List.drop g1.offset [c0, c1, c2])) = xs[1]? := hg 1 _ rfl
    have h2 : DataW.trod enc Try.prog w base spare held m g2.type (List.take (Try.prog.cellsOf g2.type) (List.drop g2.offset [c0, c1, c2])) = xs[2]? := hg 2 _ rfl
    rw [t0, o0, hcl] at h0
    rw [t1, o1, hcl] at h1
    rw [t2, o2, hcl] at h2
    match xs, hx with
    | [y0, y1, y2], _ =>
      obtain ⟨a, ha, _⟩ := DataW.trod_int Try.underlying3 (show DataW.trod enc Try.prog w base spare held m 3 [c0] = some y0 from h0)
      obtain ⟨b, hb, _⟩ := DataW.trod_int Try.underlying3 (show DataW.trod enc Try.prog w base spare held m 3 [c1] = some y1 from h1)
      obtain ⟨c, hc, _⟩ := DataW.trod_int Try.underlying3 (show DataW.trod enc Try.prog w base spare held m 3 [c2] = some y2 from h2)
      injection ha with ha
      injection hb with hb
      injection hc with hc
      exact ⟨a, b, c, by rw [ha, hb, hc]⟩
set_option maxRecDepth 100000 in
theorem open_S101 {n : Nat} {cs : List Value} {x : DataW H × List MemPlace} (h : DataW.trod enc Try.prog w base spare held n 101 cs = some x) : ∃ p : S101, cs = [.int .i64 p.f0, .int .i64 p.f1, .int .i64 p.f2] := by
  obtain ⟨a, b, c, e⟩ := open_ints3 Try.underlying101 (by kernel_rfl) ⟨_, _, _, rfl, rfl, rfl, rfl, rfl, rfl, rfl⟩ h
  exact ⟨⟨a, b, c⟩, e⟩
set_option maxRecDepth 100000 in
theorem open_S145 {n : Nat} {cs : List Value} {x : DataW H × List MemPlace} (h : DataW.trod enc Try.prog w base spare held n 145 cs = some x) : ∃ p : S145, cs = [.int .i64 p.f0, .int .i64 p.f1, .int .i64 p.f2] := by
  obtain ⟨a, b, c, e⟩ := open_ints3 Try.underlying145 (by kernel_rfl) ⟨_, _, _, rfl, rfl, rfl, rfl, rfl, rfl, rfl⟩ h
  exact ⟨⟨a, b, c⟩, e⟩
set_option maxRecDepth 100000 in
theorem open_row {α : Type} (d : Kd α) {t e n : Nat} {cs : List Value} {x : DataW H × List MemPlace} (ht : Try.prog.underlying t = some (.slice e)) (hC : Try.prog.cellsOf e = d.sz)
    (hp : ∀ {m : Nat} {cs : List Value} {y : DataW H × List MemPlace}, DataW.trod enc Try.prog w base spare held m e cs = some y → ∃ p : α, d.K w p cs)
    (h : DataW.trod enc Try.prog w base spare held n t cs = some x) : ∃ (A : Option Addr) (c : Nat) (l : List α), cs = [.slice A l.length c] ∧ l.length ≤ c ∧ d.C w A l.length l := by
  rcases open_slice ht h with ⟨rfl, _⟩ | ⟨a, len, cap, m, k, D, Pl, rfl, hb, hl, hm, hmm, hx, hi⟩
  · exact ⟨none, 0, [], rfl, Nat.le_refl _, rfl, by show (0 : Nat) ≤ _; omega, fun h => by simp at h⟩
  · have hle : len ≤ m := by rw [hmm]; split <;> omega
    have hall : ∀ i : Fin len, ∃ p : α, ∃ cs' : List Value, d.K w p cs' ∧ w.cells? base (a.add (i.1 * d.sz)) d.sz = some cs' := fun i => by
      obtain ⟨cs', hc, hd⟩ := hi i.1 (by have := i.2; omega)
      obtain ⟨p, hk⟩ := hp hd
      rw [hC] at hc
      exact ⟨p, cs', hk, hc⟩
    obtain ⟨f, hf⟩ : ∃ f : Fin len → α, ∀ i, ∃ cs' : List Value, d.K w (f i) cs' ∧ w.cells? base (a.add (i.1 * d.sz)) d.sz = some cs' := ⟨fun i => Classical.choose (hall i), fun i => Classical.choose_spec (hall i)⟩
    have hlen : (List.ofFn f).length = len := by simp
    refine ⟨some a, cap, List.ofFn f, by rw [hlen], by rw [hlen]; exact hl, ?_⟩
    rw [hlen]
    refine ⟨hlen, by unfold maxLen at hm; omega, fun _ => ⟨a, rfl, fun j p hj => ?_⟩⟩
    have hjl : j < len := by have := (List.getElem?_eq_some_iff.1 hj).1; omega
    have hpj : f ⟨j, hjl⟩ = p := by
      rw [List.getElem?_eq_getElem (by omega)] at hj
      injection hj with hj
      rw [← hj]; simp
    obtain ⟨cs', hk, hc⟩ := hf ⟨j, hjl⟩
    obtain ⟨_, hcl, hat⟩ := World.cells?_some hc
    refine ⟨cs', hcl, by rw [← hpj]; exact hk, fun i u hu => ?_⟩
    have hil : i < d.sz := by have := (List.getElem?_eq_some_iff.1 hu).1; omega
    rw [← Go.Deep.add_add, hat i hil, hu]
set_option maxRecDepth 100000 in
theorem open_market {b0 : Nat} {r : Reach} {v : Value} {d : DataW H} {p : List MemPlace} (hv : Value.okWide Try.prog w r b0 25 v) (h : DataW.Trod enc Try.prog w base spare held 25 v d p) :
    ∃ (ex : Int) (A1 : Option Addr) (c1 : Nat) (hs : List S88) (A2 : Option Addr) (c2 : Nat) (cs : List S101), v = .agg #[.int .i64 ex, .slice A1 hs.length c1, .slice A2 cs.length c2] ∧ Kd.C k88 w A1 hs.length hs ∧ hs.length ≤ c1 ∧ Kd.C k101 w A2 cs.length cs ∧ cs.length ≤ c2 := by
  obtain ⟨v0, v1, v2, y0, y1, y2, n, rfl, _, _, h0, h1, h2⟩ := open_agg3 Try.underlying25 (by kernel_rfl) (by kernel_rfl) hv h
  obtain ⟨ex, e0, _⟩ := DataW.trod_int Try.underlying3 h0
  obtain ⟨A1, c1, hs, e1, l1, r1⟩ := open_row k88 Try.underlying22 (by kernel_rfl) (fun {m cs y} hd => by obtain ⟨p, e⟩ := open_S88 hd; exact ⟨p, by rw [e]; exact k88_mk w p⟩) h1
  obtain ⟨A2, c2, cs, e2, l2, r2⟩ := open_row k101 Try.underlying23 (by kernel_rfl) (fun {m cs y} hd => by obtain ⟨p, e⟩ := open_S101 hd; exact ⟨p, by rw [e]; exact k101_mk w p⟩) h2
  injection e0 with e0
  injection e1 with e1
  injection e2 with e2
  exact ⟨ex, A1, c1, hs, A2, c2, cs, by rw [e0, e1, e2], r1, l1, r2, l2⟩
end
end Go.Proofs.Ytgjifkegfbpjkaa.Q
end
