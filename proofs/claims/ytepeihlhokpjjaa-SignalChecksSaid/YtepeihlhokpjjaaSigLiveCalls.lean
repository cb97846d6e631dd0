/- What must be whatever is asked, of signals. No condition. -/
import Derived.Test.YtepeihlhokpjjaaSigUnpack
namespace Go.Proofs.Ytepeihlhokpjjaa.P
open Go.RowKit Go.Proofs.YtepeihlhokpjjaaW.PrintWords Go.Proofs.YtepeihlhokpjjaaW.PrintLast Go.Proofs.YtepeihlhokpjjaaW.PrintMore
set_option linter.unusedVariables false
set_option linter.unusedSimpArgs false
def xa : S23 := ⟨0, 8, false, false, 1, 0⟩
def xb : S23 := ⟨15, 16, true, true, 2, 1⟩
def sa : Sg := ⟨0, 8, false, false, 1, 0⟩
def sb : Sg := ⟨15, 16, true, true, 2, 1⟩
def sz : Sg := ⟨0, 0, false, false, 0, 0⟩
def d1 : List Int := [5, 0, 0, 0, 0, 0, 0, 0]
def f1 : List Int := [5, 255, 254, 0, 0, 0, 0, 0]
theorem lv1 : putV zeros8 sa 5 = (d1, 0) ∧ putV d1 sb (-2) = (f1, 0) ∧ putV d1 sa 256 = (zeros8, 1) ∧ putV d1 sz 0 = (zeros8, 10) := by decide +kernel
theorem lv2 : worthV sb (-2) = (-3, true) ∧ rawV sb (-3) = (-2, true) ∧ rangeV sb = (-32768, 32767) := by decide +kernel
theorem lv3 : packV [xa, xb] [5, -3] = (f1, 2, 0) := by decide +kernel
theorem lv4 : unpackV [xa, xb] f1 = ([5, -3], 2, 0) := by decide +kernel
theorem lv5 : checkV [xa, xa] 8 = (1, 13) := by decide +kernel
theorem lv6 : getV f1 sb = -2 ∧ (placesV sa).length = 8 ∧ badS sa = false ∧ meetV sa sa = true ∧ meetV sa sb = false := by decide +kernel
theorem lc1 (w : World) : Calls Try.prog 8 #[.agg (oct 0 0 0 0 0 0 0 0), .agg #[.int .i64 0, .int .i64 8, .bool false, .bool false, .int .i64 1, .int .i64 0], .int .i64 5] w fun e w' => e = .returned (.tuple #[.agg (oct 5 0 0 0 0 0 0 0), .int .i64 0]) ∧ Below w.heap.size w w' := by
  have := Put_walk [0, 0, 0, 0, 0, 0, 0, 0] rfl sa 5 w
  rw [show putV [0, 0, 0, 0, 0, 0, 0, 0] sa 5 = (d1, 0) from lv1.1] at this
  exact this
theorem lc2 (w : World) : Calls Try.prog 8 #[.agg (oct 5 0 0 0 0 0 0 0), .agg #[.int .i64 15, .int .i64 16, .bool true, .bool true, .int .i64 2, .int .i64 1], .int .i64 (-2)] w fun e w' => e = .returned (.tuple #[.agg (oct 5 255 254 0 0 0 0 0), .int .i64 0]) ∧ Below w.heap.size w w' := by
  have := Put_walk [5, 0, 0, 0, 0, 0, 0, 0] rfl sb (-2) w
  rw [show putV [5, 0, 0, 0, 0, 0, 0, 0] sb (-2) = (f1, 0) from lv1.2.1] at this
  exact this
theorem lc3 (w : World) : Calls Try.prog 8 #[.agg (oct 5 0 0 0 0 0 0 0), .agg #[.int .i64 0, .int .i64 8, .bool false, .bool false, .int .i64 1, .int .i64 0], .int .i64 256] w fun e w' => e = .returned (.tuple #[.agg (oct 0 0 0 0 0 0 0 0), .int .i64 1]) ∧ Below w.heap.size w w' := by
  have := Put_walk [5, 0, 0, 0, 0, 0, 0, 0] rfl sa 256 w
  rw [show putV [5, 0, 0, 0, 0, 0, 0, 0] sa 256 = (zeros8, 1) from lv1.2.2.1] at this
  exact this
theorem lc4 (w : World) : Calls Try.prog 8 #[.agg (oct 5 0 0 0 0 0 0 0), .agg #[.int .i64 0, .int .i64 0, .bool false, .bool false, .int .i64 0, .int .i64 0], .int .i64 0] w fun e w' => e = .returned (.tuple #[.agg (oct 0 0 0 0 0 0 0 0), .int .i64 10]) ∧ Below w.heap.size w w' := by
  have := Put_walk [5, 0, 0, 0, 0, 0, 0, 0] rfl sz 0 w
  rw [show putV [5, 0, 0, 0, 0, 0, 0, 0] sz 0 = (zeros8, 10) from lv1.2.2.2] at this
  exact this
theorem lc5 (w : World) : Calls Try.prog 12 #[.agg #[.int .i64 15, .int .i64 16, .bool true, .bool true, .int .i64 2, .int .i64 1], .int .i64 (-2)] w fun e w' => e = .returned (.tuple #[.int .i64 (-3), .bool true]) ∧ Below w.heap.size w w' := by
  have := Worth_walk sb (raw := -2) (by decide) (by decide) (by decide) w
  rw [lv2.1] at this
  exact this
theorem lc6 (w : World) : Calls Try.prog 14 #[.agg #[.int .i64 15, .int .i64 16, .bool true, .bool true, .int .i64 2, .int .i64 1], .int .i64 (-3)] w fun e w' => e = .returned (.tuple #[.int .i64 (-2), .bool true]) ∧ Below w.heap.size w w' := by
  have := Raw_walk sb (x := -3) (by decide) (by decide) (by decide) w
  rw [lv2.2.1] at this
  exact this
theorem lc7 (w : World) : Calls Try.prog 10 #[.agg #[.int .i64 15, .int .i64 16, .bool true, .bool true, .int .i64 2, .int .i64 1]] w fun e w' => e = .returned (.tuple #[.int .i64 (-32768), .int .i64 32767]) ∧ Below w.heap.size w w' := by
  have := Range_walk sb w
  rw [lv2.2.2] at this
  exact this
theorem rowC_sg {W : World} {g : Nat} {a0 a1 : Int} {a2 a3 : Bool} {a4 a5 b0 b1 : Int} {b2 b3 : Bool} {b4 b5 : Int} (h : W.heap[g]? = some (.cells #[.int .i64 a0, .int .i64 a1, .bool a2, .bool a3, .int .i64 a4, .int .i64 a5, .int .i64 b0, .int .i64 b1, .bool b2, .bool b3, .int .i64 b4, .int .i64 b5] 23 (0, 0))) :
    Kd.C k23 W (some ⟨g, 0, none⟩) 2 [⟨a0, a1, a2, a3, a4, a5⟩, ⟨b0, b1, b2, b3, b4, b5⟩] := by
  have ea : ∀ n, (⟨g, 0, none⟩ : Addr).add n = ⟨g, n, none⟩ := fun n => by
    unfold Addr.add
    by_cases z : n = 0 <;> simp [z]
  refine ⟨rfl, by decide, fun _ => ⟨_, rfl, fun j p hj => ?_⟩⟩
  match j, hj with
  | 0, hj =>
    cases hj
    refine ⟨_, rfl, k23_mk W ⟨a0, a1, a2, a3, a4, a5⟩, fun i u hi => ?_⟩
    rw [ea, blk_cell h]
    match i, hi with
    | 0, hi => exact hi
    | 1, hi => exact hi
    | 2, hi => exact hi
    | 3, hi => exact hi
    | 4, hi => exact hi
    | 5, hi => exact hi
    | n + 6, hi => simp at hi
  | 1, hj =>
    cases hj
    refine ⟨_, rfl, k23_mk W ⟨b0, b1, b2, b3, b4, b5⟩, fun i u hi => ?_⟩
    rw [ea, blk_cell h]
    match i, hi with
    | 0, hi => exact hi
    | 1, hi => exact hi
    | 2, hi => exact hi
    | 3, hi => exact hi
    | 4, hi => exact hi
    | 5, hi => exact hi
    | n + 6, hi => simp at hi
  | n + 2, hj => simp at hj
theorem rowC_ints {W : World} {g : Nat} {a b : Int} (h : W.heap[g]? = some (.cells #[.int .i64 a, .int .i64 b] 2 (0, 0))) : (Kd.int .i64).C W (some ⟨g, 0, none⟩) 2 [a, b] := by
  have ea : ∀ n, (⟨g, 0, none⟩ : Addr).add n = ⟨g, n, none⟩ := fun n => by
    unfold Addr.add
    by_cases z : n = 0 <;> simp [z]
  refine ⟨rfl, by decide, fun _ => ⟨_, rfl, fun j p hj => ?_⟩⟩
  match j, hj with
  | 0, hj =>
    cases hj
    refine ⟨[.int .i64 a], rfl, rfl, fun i u hi => ?_⟩
    rw [ea, blk_cell h]
    match i, hi with
    | 0, hi => exact hi
    | n + 1, hi => simp at hi
  | 1, hj =>
    cases hj
    refine ⟨[.int .i64 b], rfl, rfl, fun i u hi => ?_⟩
    rw [ea, blk_cell h]
    match i, hi with
    | 0, hi => exact hi
    | n + 1, hi => simp at hi
  | n + 2, hj => simp at hj
theorem lc8 (g h : Nat) (w : World) (h1 : w.heap[g]? = some (.cells #[.int .i64 0, .int .i64 8, .bool false, .bool false, .int .i64 1, .int .i64 0, .int .i64 15, .int .i64 16, .bool true, .bool true, .int .i64 2, .int .i64 1] 23 (0, 0))) (h2 : w.heap[h]? = some (.cells #[.int .i64 5, .int .i64 (-3)] 2 (0, 0))) :
    Calls Try.prog 26 #[.slice (some ⟨g, 0, none⟩) 2 2, .slice (some ⟨h, 0, none⟩) 2 2] w fun e w' => e = .returned (.tuple #[.agg (oct 5 255 254 0 0 0 0 0), .int .i64 2, .int .i64 0]) ∧ Below w.heap.size w w' := by
  have := Pack_walk [xa, xb] (some ⟨g, 0, none⟩) 2 [5, -3] (some ⟨h, 0, none⟩) 2 w (rowC_sg h1) (rowC_ints h2) (by
    intro x hx
    rcases List.mem_cons.1 hx with rfl | hx
    · decide
    · rcases List.mem_cons.1 hx with rfl | hx
      · decide
      · cases hx) (by decide)
  rw [lv3] at this
  exact this
theorem lc9 (g : Nat) (w : World) (h1 : w.heap[g]? = some (.cells #[.int .i64 0, .int .i64 8, .bool false, .bool false, .int .i64 1, .int .i64 0, .int .i64 15, .int .i64 16, .bool true, .bool true, .int .i64 2, .int .i64 1] 23 (0, 0))) :
    Calls Try.prog 28 #[.slice (some ⟨g, 0, none⟩) 2 2, .agg (oct 5 255 254 0 0 0 0 0)] w fun e w' => ∃ v, e = .returned (.tuple #[v, .int .i64 2, .int .i64 0]) ∧ Kd.R (Kd.int .i64) 2 w' w.heap.size (fun _ => True) v [5, -3] ∧ Below w.heap.size w w' := by
  have := Unpack_walk [xa, xb] (some ⟨g, 0, none⟩) 2 f1 rfl w (rowC_sg h1) (by
    intro x hx
    rcases List.mem_cons.1 hx with rfl | hx
    · decide
    · rcases List.mem_cons.1 hx with rfl | hx
      · decide
      · cases hx)
  rw [lv4] at this
  exact this
theorem lc10 (g : Nat) (w : World) (h1 : w.heap[g]? = some (.cells #[.int .i64 0, .int .i64 8, .bool false, .bool false, .int .i64 1, .int .i64 0, .int .i64 0, .int .i64 8, .bool false, .bool false, .int .i64 1, .int .i64 0] 23 (0, 0))) :
    Calls Try.prog 24 #[.slice (some ⟨g, 0, none⟩) 2 2, .int .i64 8] w fun e w' => e = .returned (.tuple #[.int .i64 1, .int .i64 13]) ∧ Below w.heap.size w w' := by
  have := Check_walk [xa, xa] (some ⟨g, 0, none⟩) 2 8 w (rowC_sg h1)
  rw [lv5] at this
  exact this
theorem lc11 (w : World) : Calls Try.prog 22 #[.agg (oct 5 255 254 0 0 0 0 0), .agg #[.int .i64 15, .int .i64 16, .bool true, .bool true, .int .i64 2, .int .i64 1]] w fun e w' => e = .returned (.int .i64 (-2)) ∧ Below w.heap.size w w' := by
  have := Get_walk f1 rfl sb w
  rw [lv6.1] at this
  exact this
theorem lc12 (w : World) : Calls Try.prog 20 #[.agg #[.int .i64 0, .int .i64 8, .bool false, .bool false, .int .i64 1, .int .i64 0]] w fun e w' => (∃ A c, e = .returned (.slice A 8 c)) ∧ Below w.heap.size w w' := by
  refine (Places_walk sa w).mono ?_
  rintro e w' ⟨v, rfl, hR, _, hb⟩
  obtain ⟨A, c, ev⟩ := Kd.R_slice hR
  rw [lv6.2.1] at ev
  exact ⟨⟨A, c, by rw [ev]⟩, hb⟩
theorem lc13 (w : World) : Calls Try.prog 17 #[.agg #[.int .i64 0, .int .i64 8, .bool false, .bool false, .int .i64 1, .int .i64 0]] w fun e w' => e = .returned (.bool true) ∧ Below w.heap.size w w' := by
  have := Right_walk sa w
  rw [lv6.2.2.1] at this
  exact this
theorem lc14 (w : World) : Calls Try.prog 30 #[.agg #[.int .i64 0, .int .i64 8, .bool false, .bool false, .int .i64 1, .int .i64 0], .agg #[.int .i64 0, .int .i64 8, .bool false, .bool false, .int .i64 1, .int .i64 0]] w fun e w' => e = .returned (.bool true) ∧ Below w.heap.size w w' := by
  have := Meet_walk sa sa w
  rw [lv6.2.2.2.1] at this
  exact this
theorem lc15 (w : World) : Calls Try.prog 30 #[.agg #[.int .i64 0, .int .i64 8, .bool false, .bool false, .int .i64 1, .int .i64 0], .agg #[.int .i64 15, .int .i64 16, .bool true, .bool true, .int .i64 2, .int .i64 1]] w fun e w' => e = .returned (.bool false) ∧ Below w.heap.size w w' := by
  have := Meet_walk sa sb w
  rw [lv6.2.2.2.2] at this
  exact this
end Go.Proofs.Ytepeihlhokpjjaa.P
