/- What is wrong with several signals. Conditions: those that each lemma names. -/
import Derived.Test.YtepeihlhokpjjaaSigMeet
namespace Go.Proofs.Ytepeihlhokpjjaa.P
open Go.RowKit Go.Proofs.YtepeihlhokpjjaaW.PrintWords Go.Proofs.YtepeihlhokpjjaaW.PrintLast Go.Proofs.YtepeihlhokpjjaaW.PrintMore
set_option linter.unusedVariables false
set_option linter.unusedSimpArgs false
def checkL (b : Int) : List S23 → Nat → List Bool → Int × Int
  | [], i, _ => ((i : Int), 0)
  | s :: r, i, t =>
    if badS (Sg.of s) = true then ((i : Int), 10)
    else if (placesV (Sg.of s)).any (fun x => decide (x ≥ 8 * b)) = true then ((i : Int), 1)
    else if (takeV t (Sg.of s)).2 = true then checkL b r (i + 1) (takeV t (Sg.of s)).1
    else ((i : Int), 13)
def checkV (l : List S23) (b : Int) : Int × Int := if (l.length : Int) > 64 then (0, 11) else if b < 0 ∨ b > 8 then (0, 2) else checkL b l 0 free64
theorem drop_T23 {l : List S23} {k : Nat} (h : k < l.length) : l.drop k = rd_T23 l (k : Int) :: l.drop (k + 1) := by
  rw [List.drop_eq_getElem_cons h]
  congr 1
  simp [rd_T23, h]
structure Ck (b : Int) (t : List Bool) (bb bt : Nat) (w W : World) : Prop where
  kb : W.heap[bb]? = some (.cells #[.int .i64 b] 3 (0, 0))
  kt : W.heap[bt]? = some (.cells (boolsA t) 63 (0, 0))
  l1 : w.heap.size ≤ bb
  l2 : w.heap.size ≤ bt
  n : bb ≠ bt
  B : Below w.heap.size w W
section
variable {b : Int} {t t' : List Bool} {bb bt : Nat} {w W W' : World}
theorem Ck.below (h : Ck b t bb bt w W) (hb : Below W.heap.size W W') : Ck b t bb bt w W' := ⟨blk_below h.kb hb, blk_below h.kt hb, h.l1, h.l2, h.n, below_step h.B hb⟩
theorem Ck.take (h : Ck b t bb bt w W) (hk : W'.heap[bt]? = some (.cells (boolsA t') 63 (0, 0))) (hc : ChS (fun k => k = bt) W W') : Ck b t' bb bt w W' :=
  ⟨hc.blk h.kb h.n, hk, h.l1, h.l2, h.n, hc.lift h.B (Nat.le_refl _) (fun k e => by rw [e]; exact h.l2)⟩
end
set_option maxHeartbeats 8000000 in
set_option maxRecDepth 100000 in
theorem Check_walk (l : List S23) (A : Option Addr) (cp : Nat) (b : Int) (w : World) (hC : Kd.C k23 w A l.length l) :
    Calls Try.prog 24 #[.slice A l.length cp, .int .i64 b] w fun e w' => e = .returned (.tuple #[.int .i64 (checkV l b).1, .int .i64 (checkV l b).2]) ∧ Below w.heap.size w w' := by
  have hu23 := Try.underlying23
  have hu39 := Try.underlying39
  have HC := Aside0.mk hC
  clear hC
  have CV : Aside0 (checkV l b = if (l.length : Int) > 64 then (0, 11) else if b < 0 ∨ b > 8 then (0, 2) else checkL b l 0 free64) := ⟨rfl⟩
  generalize checkV l b = cv at CV ⊢
  have B1 := Aside0.mk (below_alloc (Below.refl w.heap.size w) (.cells #[.int .i64 b] 3))
  by_cases h64 : (l.length : Int) > 64
  · have u1 : decide ((l.length : Int) > 64) = true := decide_eq_true h64
    have u1b : decide (l.length > 64) = true := decide_eq_true (by omega)
    have EC := Aside0.mk (CV.out.trans (if_pos h64))
    clear h64 CV
    go_enter Try.func24, Try.ntmps24
    go_wp2
    go_ret2
    exact ⟨by rw [EC.out]; rfl, B1.out⟩
  · have u1 : decide ((l.length : Int) > 64) = false := decide_eq_false h64
    have u1b : decide (l.length > 64) = false := decide_eq_false (by omega)
    have EC0 := CV.out.trans (if_neg h64)
    have L64 : Aside0 (l.length ≤ 64) := ⟨by omega⟩
    clear h64 CV
    have c0 : (w.alloc (.cells #[.int .i64 b] 3)).cell? ⟨w.heap.size, 0, none⟩ = some (.int .i64 b) := (blk_cell (blk_new w _) 0).trans rfl
    by_cases hb0 : b < 0
    · have u2 : decide (b < 0) = true := decide_eq_true hb0
      have EC := Aside0.mk (EC0.trans (if_pos (.inl hb0)))
      clear hb0 EC0
      go_enter Try.func24, Try.ntmps24
      go_wp2
      go_ret2
      exact ⟨by rw [EC.out]; rfl, B1.out⟩
    · have u2 : decide (b < 0) = false := decide_eq_false hb0
      by_cases hb8 : b > 8
      · have u3 : decide (b > 8) = true := decide_eq_true hb8
        have EC := Aside0.mk (EC0.trans (if_pos (.inr hb8)))
        clear hb0 hb8 EC0
        go_enter Try.func24, Try.ntmps24
        go_wp2
        go_ret2
        exact ⟨by rw [EC.out]; rfl, B1.out⟩
      · have u3 : decide (b > 8) = false := decide_eq_false hb8
        have EC := Aside0.mk (EC0.trans (if_neg (by omega)))
        have HB := Aside0.mk (And.intro (Int.not_lt.1 hb0) (Int.not_lt.1 hb8))
        clear hb0 hb8 EC0
        have KZ : Aside0 (∀ cs : Array Value, cs = boolsA free64 → Ck b free64 w.heap.size (w.heap.size + 1) w ((w.alloc (.cells #[.int .i64 b] 3)).alloc (.cells cs 63))) := ⟨fun cs e => by
          subst e
          exact ⟨blk_below (blk_new w _) (below_alloc (Below.refl _ _) _), blk_new2 _ _ _, Nat.le_refl _, Nat.le_succ _, by omega, below_alloc B1.out _⟩⟩
        go_enter Try.func24, Try.ntmps24
        go_wp2
        have HE : Aside0 (free64.length = 64 ∧ checkL b (l.drop 0) 0 free64 = cv) := ⟨by decide, EC.out.symm⟩
        clear EC B1 c0
        go_loopg [24] (l.length + 1) (fun kq v24 w' => ∃ (k : Nat) (t : List Bool), v24 = .int .i64 (k : Int) ∧ Aside0 (k ≤ l.length ∧ l.length < k + kq) ∧ Aside0 (t.length = 64 ∧ checkL b (l.drop k) k t = cv) ∧ Aside0 (Ck b t w.heap.size (w.heap.size + 1) w w'))
        case atStart => exact ⟨0, free64, rfl, ⟨by omega⟩, HE, ⟨KZ.out _ (by kernel_rfl)⟩⟩
        case round =>
          clear HE KZ
          obtain ⟨k, t, rfl, HK, HL, Z⟩ := hrel
          cases gk with
          | zero => exact absurd HK.out (by omega)
          | succ k1 =>
            by_cases hlt : k < l.length
            · have u4 : decide ((k : Int) < (l.length : Int)) = true := decide_eq_true (by omega)
              have u4b : decide (k < l.length) = true := decide_eq_true hlt
              have p1 : (0 ≤ (k : Int)) = True := eq_true (by omega)
              have q1 : ((k : Int) < (l.length : Int)) = True := eq_true (by omega)
              obtain ⟨ad, ea, x0, x1, x2, x3, x4, x5⟩ := at_T23 (Kd.C_below HC.out Z.out.B) (k : Int) (by omega) (by omega)
              cases ea
              have k1' : wrap64 ((k : Int) + 1) = ((k + 1 : Nat) : Int) := by rw [wr_small _ (by omega) (by have := L64.out; omega)]; rfl
              have HD : Aside0 (checkL b (rd_T23 l (k : Int) :: l.drop (k + 1)) k t = cv) := ⟨by rw [← drop_T23 hlt]; exact HL.out.2⟩
              have TL := Aside0.mk HL.out.1
              have KL := Aside0.mk hlt
              clear hlt HL
              generalize rd_T23 l (k : Int) = x at x0 x1 x2 x3 x4 x5 HD
              obtain ⟨g0, g1, g2, g3, g4, g5⟩ := x
              dsimp only at x0 x1 x2 x3 x4 x5
              simp only [Int.toNat_natCast] at x0 x1 x2 x3 x4 x5
              have RC := Aside0.mk (Right_walk ⟨g0, g1, g2, g3, g4, g5⟩)
              have PC := Aside0.mk (Places_walk ⟨g0, g1, g2, g3, g4, g5⟩)
              have PL := Aside0.mk (placesV_len ⟨g0, g1, g2, g3, g4, g5⟩)
              have TC := Aside0.mk (fun bt w h => Take_walk t TL.out bt ⟨g0, g1, g2, g3, g4, g5⟩ w h)
              have TN : Aside0 ((takeV t ⟨g0, g1, g2, g3, g4, g5⟩).1.length = 64) := ⟨(takeL_len _ _ _).trans TL.out⟩
              have HD2 : Aside0 ((if badS ⟨g0, g1, g2, g3, g4, g5⟩ = true then ((k : Int), 10) else if (placesV ⟨g0, g1, g2, g3, g4, g5⟩).any (fun x => decide (x ≥ 8 * b)) = true then ((k : Int), 1) else if (takeV t ⟨g0, g1, g2, g3, g4, g5⟩).2 = true then checkL b (l.drop (k + 1)) (k + 1) (takeV t ⟨g0, g1, g2, g3, g4, g5⟩).1 else ((k : Int), 13)) = cv) := ⟨HD.out⟩
              clear HD
              generalize badS ⟨g0, g1, g2, g3, g4, g5⟩ = bd at RC HD2
              generalize placesV ⟨g0, g1, g2, g3, g4, g5⟩ = pl at PC PL HD2
              generalize (takeV t ⟨g0, g1, g2, g3, g4, g5⟩).1 = tn at TC TN HD2
              generalize (takeV t ⟨g0, g1, g2, g3, g4, g5⟩).2 = tf at TC HD2
              have XB : Aside0 ((wr.alloc (.cells #[.int .i64 g0, .int .i64 g1, .bool g2, .bool g3, .int .i64 g4, .int .i64 g5] 23)).heap[wr.heap.size]? = some (.cells #[.int .i64 g0, .int .i64 g1, .bool g2, .bool g3, .int .i64 g4, .int .i64 g5] 23 (0, 0))) := ⟨blk_new _ _⟩
              have Z1 := Aside0.mk (Z.out.below (below_alloc (Below.refl _ _) (.cells #[.int .i64 g0, .int .i64 g1, .bool g2, .bool g3, .int .i64 g4, .int .i64 g5] 23)))
              clear Z
              go_wp2_with fail
              (with_reducible refine (RC.out _).mono ?_)
              rintro e W1 ⟨rfl, hb⟩
              have Z := Aside0.mk (Z1.out.below hb)
              have X1 := Aside0.mk (blk_below XB.out hb)
              clear Z1 XB hb x0 x1 x2 x3 x4 x5
              obtain ⟨x0, x1, x2, x3, x4, x5⟩ := sg_cells (s := ⟨g0, g1, g2, g3, g4, g5⟩) X1.out
              dsimp only at x0 x1 x2 x3 x4 x5
              cases bd
              · go_wp2_with fail
                (with_reducible refine (PC.out _).mono ?_)
                rintro e W2 ⟨v, rfl, hR, _, hb⟩
                obtain ⟨A2, cp2, ev, _, hC2⟩ := Kd.R_reads hR
                subst ev
                have Z2 := Aside0.mk (Z.out.below hb)
                have X2 := Aside0.mk (blk_below X1.out hb)
                have HC2 := Aside0.mk hC2
                clear Z X1 hb hR hC2 x0 x1 x2 x3 x4 x5
                have Z := Z2
                have X1 := X2
                clear Z2 X2
                go_wp2_with fail
                (with_reducible refine (Contains_walk pl PL.out A2 cp2 b _ _ Z.out.kb HB.out.1 HB.out.2 HC2.out).mono ?_)
                rintro e W3 ⟨rfl, hb⟩
                have Z2 := Aside0.mk (Z.out.below hb)
                have X2 := Aside0.mk (blk_below X1.out hb)
                clear Z X1 hb
                have Z := Z2
                have X1 := X2
                clear Z2 X2
                obtain ⟨x0, x1, x2, x3, x4, x5⟩ := sg_cells (s := ⟨g0, g1, g2, g3, g4, g5⟩) X1.out
                dsimp only at x0 x1 x2 x3 x4 x5
                generalize pl.any (fun x => decide (x ≥ 8 * b)) = an at HD2
                cases an
                · go_wp2_with fail
                  (with_reducible refine (TC.out _ _ Z.out.kt).mono ?_)
                  rintro e W4 ⟨rfl, hk, hc⟩
                  have Z2 := Aside0.mk (Z.out.take hk hc)
                  clear Z X1 hk hc x0 x1 x2 x3 x4 x5
                  have Z := Z2
                  clear Z2
                  cases tf
                  · go_wp2
                    go_ret2
                    exact ⟨by rw [← HD2.out]; rfl, Z.out.B⟩
                  · go_wp2
                    go_roundg k1
                    case rel => exact ⟨k + 1, tn, by rw [k1'], ⟨by have := HK.out; have := KL.out; omega⟩, ⟨TN.out, HD2.out⟩, Z⟩
                    case measure => omega
                · go_wp2
                  go_ret2
                  exact ⟨by rw [← HD2.out]; rfl, Z.out.B⟩
              · go_wp2
                go_ret2
                exact ⟨by rw [← HD2.out]; rfl, Z.out.B⟩
            · have u4 : decide ((k : Int) < (l.length : Int)) = false := decide_eq_false (by omega)
              have u4b : decide (k < l.length) = false := decide_eq_false hlt
              have EN : Aside0 (cv = ((l.length : Int), 0)) := ⟨by
                have := HL.out.2
                rw [show k = l.length by have := HK.out; omega, List.drop_length] at this
                exact this.symm⟩
              clear hlt HL
              go_wp2
              go_ret2
              exact ⟨by rw [EN.out]; rfl, Z.out.B⟩
end Go.Proofs.Ytepeihlhokpjjaa.P
