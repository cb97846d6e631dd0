/- The accord law's fixed answers, walked by hand. No condition. -/
import Derived.Test.YtjnllejfgljkdaaAccordNew
namespace Go.Proofs.Ytjnllejfgljkdaa.P
open Go.RowKit Go.Proofs.YtjnllejfgljkdaaW.PrintWords Go.Proofs.YtjnllejfgljkdaaW.PrintLast Go.Proofs.YtjnllejfgljkdaaW.PrintMore
set_option linter.unusedVariables false
set_option linter.unusedSimpArgs false
def La : AS := (stepS 100 1 (S0 500) 100 100).2
def Lb : AS := (appS 0 La 1048576).2
def Lc : AS := (capS Lb).2
def Ld : AS := (appS 0 Lc 1048576).2
def Le : Nat → AS
  | 0 => Ld
  | k + 1 => (stepS 100 1 (Le k) 101 99).2
theorem la : stepS 100 1 (S0 500) 100 100 = (0, La) := Prod.ext (by decide +kernel) rfl
theorem lb : appS 0 La 1048576 = (8, Lb) := Prod.ext (by decide +kernel) rfl
theorem lc : capS Lb = (true, Lc) := Prod.ext (by decide +kernel) rfl
theorem ld : appS 0 Lc 1048576 = (0, Ld) := Prod.ext (by decide +kernel) rfl
theorem lvf : Ld.follows = false := by decide +kernel
theorem lg : (Le 6).follows = true ∧ (Le 6).lm = 706 ∧ (Le 6).ls = 694 ∧ gapS (Le 6) = 6 := by decide +kernel
theorem lr1 : accord_Right.f 100 1 0 = some true := by decide +kernel
theorem lr2 : osc_Right.f 100 1 = some true := by decide +kernel
theorem lr3 : accord_within.f 500 1125899906842624 = some true := by decide +kernel
theorem lr4 : accord_Right.f 0 0 0 = some false := by decide +kernel
theorem lr5 : accord_within.f 0 1125899906842624 = some true := by decide +kernel
theorem lr6 : accord_Slope.f 100 1 0 = some 2 := by decide +kernel
theorem lr7 : accord_Bound.f 200 100 1 0 10 = some (24, true) := by decide +kernel
set_option maxHeartbeats 8000000 in
set_option maxRecDepth 100000 in
theorem live_walk (w : World) : Calls Try.prog 10 #[] w fun e w' => e = .returned (.bool true) ∧ Below w.heap.size w w' := by
  have hu25 := Try.underlying25
  have X0 := Aside0.mk (blk_new w (.cells #[.int .i64 100, .int .i64 1, .int .i64 0] 25))
  have B0 := Aside0.mk (below_alloc (Below.refl w.heap.size w) (.cells #[.int .i64 100, .int .i64 1, .int .i64 0] 25))
  go_enter Try.func10, Try.ntmps10
  go_wp2_with fail
  (with_reducible refine (PNew_yes 100 1 0 500 _ lr1 lr2 lr3 (by omega) (by omega)).mono ?_)
  rintro e w1 ⟨p, mo, mc, so, sc, rfl, h1⟩
  have X1 := Aside0.mk (blk_below X0.out h1.B)
  have B1 := Aside0.mk (below_step B0.out h1.B)
  have K1 := Aside0.mk h1
  clear h1 X0
  go_wp2_with fail
  (with_reducible refine (PNew_no 0 0 0 0 false true _ lr4 lr5 rfl).mono ?_); rintro e w2 ⟨rfl, hb⟩
  have K2 := Aside0.mk (K1.out.below hb)
  clear hb K1
  go_wp2_with fail
  (with_reducible refine (PStep _ _ p mo mc so sc 100 1 0 (S0 500) _ _ 100 100 0 La K2.out (by omega) (by omega) la).mono ?_); rintro e w3 ⟨rfl, h3, _⟩
  have K3 := Aside0.mk h3
  clear h3 K2
  go_wp2_with fail
  (with_reducible refine (PApply _ _ p mo mc so sc 100 1 0 La _ _ 1048576 8 Lb K3.out (by omega) (by omega) lb).mono ?_); rintro e w4 ⟨rfl, vn4, va4, h4, _⟩
  have K4 := Aside0.mk h4
  clear h4 K3
  go_wp2_with fail
  (with_reducible refine (PCapture _ _ p mo mc so sc 100 1 0 Lb _ _ true Lc K4.out lc).mono ?_); rintro e w5 ⟨rfl, vn5, h5, _⟩
  have K5 := Aside0.mk h5
  clear h5 K4
  go_wp2_with fail
  (with_reducible refine (PApply _ _ p mo mc so sc 100 1 0 Lc _ _ 1048576 0 Ld K5.out (by omega) (by omega) ld).mono ?_); rintro e w6 ⟨rfl, vn6, va6, h6, _⟩
  have K6 := Aside0.mk h6
  clear h6 K5
  go_wp2_with fail
  (with_reducible refine (PSettled _ _ p mo mc so sc 100 1 0 Ld _ _ K6.out).mono ?_); rintro e w7 ⟨rfl, rfl⟩
  rw [lvf]
  go_wp2
  go_loopg [11] 6 (fun kq v11 w' => ∃ (i : Nat), v11 = .int .i64 i ∧ Aside0 (i + kq = 6) ∧ Aside0 (PA (w.alloc (.cells #[.int .i64 100, .int .i64 1, .int .i64 0] 25)) w' p mo mc so sc 100 1 0 (Le i) vn6 va6))
  case atStart => exact ⟨0, rfl, ⟨by omega⟩, K6⟩
  case round =>
    obtain ⟨i, rfl, HI, K⟩ := hrel
    clear K6
    by_cases t1 : i < 6
    · have u1 : decide ((i : Int) < 6) = true := decide_eq_true (by omega)
      have u2 : decide (i < 6) = true := decide_eq_true (by omega)
      obtain ⟨k1, rfl⟩ : ∃ k1, gk = k1 + 1 := ⟨gk - 1, by have := HI.out; omega⟩
      have HI' : Aside0 (i + 1 + k1 = 6) := ⟨by have := HI.out; omega⟩
      have hi1 : wrap64 ((i : Int) + 1) = ((i + 1 : Nat) : Int) := by rw [wr64 _ (by omega) (by omega)]; rfl
      have HE := Aside0.mk hi1
      clear t1 hi1
      go_wp2_with fail
      (with_reducible refine (PStep _ _ p mo mc so sc 100 1 0 (Le i) _ _ 101 99 (stepS 100 1 (Le i) 101 99).1 (Le (i + 1)) K.out (by omega) (by omega) rfl).mono ?_); rintro e w8 ⟨rfl, h8, _⟩
      have K8 := Aside0.mk h8
      clear h8 K
      go_wp2
      go_roundg k1
      case measure => omega
      case rel => exact ⟨i + 1, by rw [HE.out], HI', K8⟩
    · obtain rfl : i = 6 := by have := HI.out; omega
      have u1 : decide (((6 : Nat) : Int) < 6) = false := decide_eq_false (by omega)
      obtain ⟨f1, f2, f3, f4⟩ := lg
      have F1 := Aside0.mk (And.intro f1 (And.intro f2 (And.intro f3 f4)))
      have X8 := Aside0.mk (blk_below (w := w.alloc (.cells #[.int .i64 100, .int .i64 1, .int .i64 0] 25)) (blk_new w _) K.out.B)
      obtain ⟨c0, c1, c2⟩ := cells3a X8.out
      clear t1 f1 f2 f3 f4
      go_wp2_with fail
      (with_reducible refine (accord_Bound.calls 200 100 1 0 10 24 true _ lr7).mono ?_); rintro e w9 ⟨rfl, hb⟩
      have K9 := Aside0.mk (K.out.below hb)
      have X9 := Aside0.mk (blk_below X8.out hb)
      clear hb K X8 c0 c1 c2
      obtain ⟨c0, c1, c2⟩ := cells3a X9.out
      go_wp2_with fail
      (with_reducible refine (PSettled _ _ p mo mc so sc 100 1 0 (Le 6) _ _ K9.out).mono ?_); rintro e w10 ⟨rfl, rfl⟩
      rw [F1.out.1]
      go_wp2_with fail
      (with_reducible refine (PMaster _ _ p mo mc so sc 100 1 0 (Le 6) _ _ K9.out).mono ?_); rintro e w10 ⟨rfl, rfl⟩
      rw [F1.out.2.1]
      go_wp2_with fail
      (with_reducible refine (PSlave _ _ p mo mc so sc 100 1 0 (Le 6) _ _ K9.out).mono ?_); rintro e w10 ⟨rfl, rfl⟩
      rw [F1.out.2.2.1]
      go_wp2_with fail
      (with_reducible refine (PGap _ _ p mo mc so sc 100 1 0 (Le 6) _ _ K9.out).mono ?_); rintro e w10 ⟨rfl, hb⟩
      rw [F1.out.2.2.2]
      have K10 := Aside0.mk (K9.out.below hb)
      have X10 := Aside0.mk (blk_below X9.out hb)
      clear hb K9 X9 c0 c1 c2
      obtain ⟨c0, c1, c2⟩ := cells3a X10.out
      go_wp2_with fail
      (with_reducible refine (accord_Slope.calls 100 1 0 2 _ lr6).mono ?_); rintro e w11 ⟨rfl, hb⟩
      have B11 := Aside0.mk (below_step K10.out.B hb)
      have X11 := Aside0.mk (blk_below X10.out hb)
      clear hb K10 X10 c0 c1 c2
      obtain ⟨c0, c1, c2⟩ := cells3a X11.out
      go_wp2_with fail
      (with_reducible refine (accord_Right.calls 100 1 0 true _ lr1).mono ?_); rintro e w12 ⟨rfl, hb⟩
      have B12 := Aside0.mk (below_step B11.out hb)
      clear hb X11 c0 c1 c2
      go_wp2_with fail
      (with_reducible refine (PStep_nil 1 1 _).mono ?_); rintro e w13 ⟨rfl, rfl⟩
      go_wp2_with fail
      (with_reducible refine (PCapture_nil _).mono ?_); rintro e w13 ⟨rfl, rfl⟩
      go_wp2_with fail
      (with_reducible refine (PGap_nil _).mono ?_); rintro e w13 ⟨rfl, rfl⟩
      go_wp2_with fail
      (with_reducible refine (PMaster_nil _).mono ?_); rintro e w13 ⟨rfl, rfl⟩
      go_wp2_with fail
      go_ret
      exact ⟨rfl, below_step (below_alloc (Below.refl w.heap.size w) _) B12.out⟩
end Go.Proofs.Ytjnllejfgljkdaa.P
