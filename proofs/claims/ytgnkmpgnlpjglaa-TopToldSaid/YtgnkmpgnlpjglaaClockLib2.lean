/- The clock's methods and the reference's, walked by hand over one plain law of what a clock has at a count. Conditions: the numbers are within 64 bits. -/
import Derived.Test.YtgnkmpgnlpjglaaClockLib
namespace Go.Proofs.Ytgnkmpgnlpjglaa.P
open Go.RowKit Go.Proofs.YtgnkmpgnlpjglaaW.PrintWords Go.Proofs.YtgnkmpgnlpjglaaW.PrintLast Go.Proofs.YtgnkmpgnlpjglaaW.PrintMore
set_option linter.unusedVariables false
set_option linter.unusedSimpArgs false
theorem Add_eq (a b : Int) (a0 : -9223372036854775808 ≤ a) (a1 : a ≤ 9223372036854775807) (b0 : -9223372036854775808 ≤ b) (b1 : b ≤ 9223372036854775807) : exact_Add.f a b = some (fit64 (a + b)) := by
  have hw := wrap64_range (a + b)
  have h1 := xor_neg a (wrap64 (a + b)) a0 a1 hw.1 hw.2
  have h2 := xor_neg b (wrap64 (a + b)) b0 b1 hw.1 hw.2
  have r1 := xor_range a (wrap64 (a + b))
  have r2 := xor_range b (wrap64 (a + b))
  have h3 := and_neg _ _ r1.1 r1.2 r2.1 r2.2
  unfold exact_Add.f
  by_cases hf : -9223372036854775808 ≤ a + b ∧ a + b ≤ 9223372036854775807
  · rw [if_neg (by rw [h3, h1, h2, wr64 _ hf.1 hf.2]; omega), fit64, if_pos hf, wr64 _ hf.1 hf.2]
  · rw [if_pos (by
      rw [h3, h1, h2]
      have hv : wrap64 (a + b) = a + b - 18446744073709551616 ∧ 0 < a + b ∨ wrap64 (a + b) = a + b + 18446744073709551616 ∧ a + b < 0 := by unfold wrap64; omega
      omega), fit64, if_neg hf]
theorem Sub_eq (a b : Int) (a0 : -9223372036854775808 ≤ a) (a1 : a ≤ 9223372036854775807) (b0 : -9223372036854775808 ≤ b) (b1 : b ≤ 9223372036854775807) : exact_Sub.f a b = some (fit64 (a - b)) := by
  have hw := wrap64_range (a - b)
  have h1 := xor_neg a b a0 a1 b0 b1
  have h2 := xor_neg a (wrap64 (a - b)) a0 a1 hw.1 hw.2
  have r1 := xor_range a b
  have r2 := xor_range a (wrap64 (a - b))
  have h3 := and_neg _ _ r1.1 r1.2 r2.1 r2.2
  unfold exact_Sub.f
  by_cases hf : -9223372036854775808 ≤ a - b ∧ a - b ≤ 9223372036854775807
  · rw [if_neg (by rw [h3, h1, h2, wr64 _ hf.1 hf.2]; omega), fit64, if_pos hf, wr64 _ hf.1 hf.2]
  · rw [if_pos (by
      rw [h3, h1, h2]
      have hv : wrap64 (a - b) = a - b - 18446744073709551616 ∧ 0 < a - b ∨ wrap64 (a - b) = a - b + 18446744073709551616 ∧ a - b < 0 := by unfold wrap64; omega
      omega), fit64, if_neg hf]
/-- What a clock has at a count. -/
def lookV (r b k c : Int) : Int × Bool :=
  if In64 (c - r) ∧ In64 ((c - r) * k / 1048576) ∧ wi ((c - r) * k / 1048576 + b) = true then ((c - r) * k / 1048576 + b, true) else (0, false)
theorem wi_bounds {t : Int} (h : wi t = true) : -1152921504606846976 ≤ t ∧ t ≤ 1152921504606846976 := of_decide_eq_true h
theorem fits_eq64 (x : Int) : fits x = fit64 x := rfl
theorem xScale_eq (a k : Int) (ha : In64 a) (hk : In64 k) : exact_Scale.f a k 1048576 = some (fit64 (a * k / 1048576)) := by
  unfold exact_Scale.f
  rw [if_neg (by omega), if_pos ⟨ha, hk, by unfold In64; omega⟩]
  rfl
theorem fit64_range (x : Int) : In64 (fit64 x).1 := by
  unfold fit64 In64
  split
  · assumption
  · show -9223372036854775808 ≤ (0 : Int) ∧ (0 : Int) ≤ 9223372036854775807; omega
theorem step_range (t : Int) (f : Bool) (n : Int) (ok : Bool) (ht : In64 t) (hn : In64 n) : In64 (stepV t f n ok) := by
  unfold stepV; split <;> assumption
theorem at_calls (r b k c t : Int) (ok : Bool) (w : World) (hr : In64 r) (hb : In64 b) (hk : In64 k) (hc : In64 c) (h : lookV r b k c = (t, ok)) :
    Calls Try.prog 77 #[.agg #[.int .i64 r, .int .i64 b, .int .i64 k], .int .i64 c] w fun e w' => e = .returned (.tuple #[.int .i64 t, .bool ok]) ∧ Below w.heap.size w w' := by
  have e1 : exact_Sub.f c r = some ((fit64 (c - r)).1, (fit64 (c - r)).2) := Sub_eq c r hc.1 hc.2 hr.1 hr.2
  have g1 := step_range c true _ (fit64 (c - r)).2 hc (fit64_range (c - r))
  have e2 : exact_Scale.f (stepV c true (fit64 (c - r)).1 (fit64 (c - r)).2) k 1048576 = some ((fit64 (stepV c true (fit64 (c - r)).1 (fit64 (c - r)).2 * k / 1048576)).1, (fit64 (stepV c true (fit64 (c - r)).1 (fit64 (c - r)).2 * k / 1048576)).2) := xScale_eq _ k g1 hk
  generalize ht1 : stepV c true (fit64 (c - r)).1 (fit64 (c - r)).2 = t1 at g1 e2
  have g2 := step_range t1 (true && (fit64 (c - r)).2) _ (fit64 (t1 * k / 1048576)).2 g1 (fit64_range (t1 * k / 1048576))
  generalize ht2 : stepV t1 (true && (fit64 (c - r)).2) (fit64 (t1 * k / 1048576)).1 (fit64 (t1 * k / 1048576)).2 = t2 at g2
  have e3 : exact_Add.f t2 b = some ((fit64 (t2 + b)).1, (fit64 (t2 + b)).2) := Add_eq t2 b g2.1 g2.2 hb.1 hb.2
  refine (at_core r b k c _ _ _ t1 t2 _ _ _ _ _ _ _ _ w e1 ht1 rfl e2 ht2 rfl e3 rfl rfl (within_eq _)).mono ?_
  rintro e w' ⟨rfl, hB⟩
  refine ⟨?_, hB⟩
  clear e1 e2 e3 hB
  have key : ∀ (a : Int) (o : Bool) (t' : Int) (o' : Bool), a = t' → o = o' → Ending.returned (.tuple #[.int .i64 a, .bool o]) = Ending.returned (.tuple #[.int .i64 t', .bool o']) := fun a o t' o' x y => by rw [x, y]
  unfold lookV at h
  by_cases c1 : -9223372036854775808 ≤ c - r ∧ c - r ≤ 9223372036854775807
  · have f1 := fit64_in c1.1 c1.2
    rw [f1] at ht1 ht2 ⊢
    obtain rfl : t1 = c - r := ht1.symm
    by_cases c2 : -9223372036854775808 ≤ (c - r) * k / 1048576 ∧ (c - r) * k / 1048576 ≤ 9223372036854775807
    · have f2 := fit64_in c2.1 c2.2
      rw [f2] at ht2 ⊢
      obtain rfl : t2 = (c - r) * k / 1048576 := ht2.symm
      by_cases c3 : wi ((c - r) * k / 1048576 + b) = true
      · have c3' := wi_bounds c3
        rw [if_pos ⟨c1, c2, c3⟩] at h
        have f3 := fit64_in (x := (c - r) * k / 1048576 + b) (by omega) (by omega)
        rw [f3]
        have hx := Prod.mk.inj h
        have s : stepV ((c - r) * k / 1048576) (true && (c - r, true).2 && ((c - r) * k / 1048576, true).2) ((c - r) * k / 1048576 + b, true).1 ((c - r) * k / 1048576 + b, true).2 = (c - r) * k / 1048576 + b := rfl
        rw [s, c3]
        exact key _ _ _ _ hx.1 hx.2
      · rw [if_neg (fun x => c3 x.2.2)] at h
        have hx := Prod.mk.inj h
        by_cases c4 : -9223372036854775808 ≤ (c - r) * k / 1048576 + b ∧ (c - r) * k / 1048576 + b ≤ 9223372036854775807
        · have f3 := fit64_in c4.1 c4.2
          rw [f3]
          have s : stepV ((c - r) * k / 1048576) (true && (c - r, true).2 && ((c - r) * k / 1048576, true).2) ((c - r) * k / 1048576 + b, true).1 ((c - r) * k / 1048576 + b, true).2 = (c - r) * k / 1048576 + b := rfl
          rw [s, Bool.eq_false_iff.2 c3]
          exact key _ _ _ _ hx.1 hx.2
        · have f3 := fit64_out c4
          rw [f3]
          exact key _ _ _ _ hx.1 hx.2
    · have f2 := fit64_out c2
      rw [f2] at ht2 ⊢
      rw [if_neg (fun x => c2 x.2.1)] at h
      have hx := Prod.mk.inj h
      exact key _ _ _ _ hx.1 hx.2
  · have f1 := fit64_out c1
    rw [f1] at ht1 ht2 ⊢
    rw [if_neg (fun x => c1 x.1)] at h
    have hx := Prod.mk.inj h
    exact key _ _ _ _ hx.1 hx.2
/-- A clock of four cells. -/
def At4 (t : TypeId) (w : World) (g : Nat) (r b k l : Int) : Prop := w.heap[g]? = some (.cells #[.int .i64 r, .int .i64 b, .int .i64 k, .int .i64 l] t (0, 0))
theorem At4.below {t : TypeId} {w w1 : World} {g : Nat} {r b k l : Int} (h : At4 t w g r b k l) (hb : Below w.heap.size w w1) : At4 t w1 g r b k l := blk_below h hb
/-- What a method on a clock answers, what the clock is behind it, and that all else is as it was. -/
def P4 (t : TypeId) (g : Nat) (r b k l : Int) (v : Value) (w : World) (e : Ending) (w' : World) : Prop := e = .returned v ∧ At4 t w' g r b k l ∧ KeepBut w w' g none ∧ ∀ B, B ≤ g → B ≤ w.heap.size → Below B w w'
theorem belB {w w' : World} (hb : Below w.heap.size w w') {B : Nat} (h : B ≤ w.heap.size) : Below B w w' := ⟨hb.os, hb.tape, hb.output, hb.size, fun k hk => hb.block k (by omega)⟩
theorem P4.same {t : TypeId} {g : Nat} {r b k l : Int} {v : Value} {w w' : World} (h : At4 t w g r b k l) (hb : Below w.heap.size w w') : P4 t g r b k l v w (.returned v) w' := ⟨rfl, h.below hb, KeepBut.of_below hb g none, fun _ _ hB => belB hb hB⟩
set_option maxHeartbeats 4000000 in
set_option maxRecDepth 100000 in
theorem Look_calls (g : Nat) (r b k l c t : Int) (ok : Bool) (w : World) (h : At4 98 w g r b k l) (hr : In64 r) (hb : In64 b) (hk : In64 k) (hc : In64 c) (hl : lookV r b k c = (t, ok)) :
    Calls Try.prog 50 #[.pointer (some ⟨g, 0, none⟩), .int .i64 c] w fun e w' => e = .returned (.tuple #[.int .i64 t, .bool ok]) ∧ Below w.heap.size w w' := by
  have HA := Aside0.mk (fun w => at_calls r b k c t ok w hr hb hk hc hl)
  obtain ⟨c0, c1, c2, c3, f0, f1, f2, f3⟩ := cells4k h
  clear h hr hb hk hc hl
  have hu42 := Try.underlying96
  have hu44 := Try.underlying98
  go_enter Try.func50, Try.ntmps50
  go_wp2_with fail
  (with_reducible refine (HA.out _).mono ?_); rintro e w1 ⟨rfl, hb⟩
  go_wp2_with fail
  go_ret2
  exact ⟨rfl, hb⟩
theorem Look_nil (c : Int) (w : World) : Calls Try.prog 50 #[.pointer none, .int .i64 c] w fun e w' => e = .returned (.tuple #[.int .i64 0, .bool false]) ∧ Below w.heap.size w w' := by
  go_enter Try.func50, Try.ntmps50
  go_wp2
  go_ret2
  exact ⟨rfl, Below.refl _ _⟩
