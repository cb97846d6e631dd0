/- What must be whatever is asked: a field of three is opened, ticks, loses its master; a node waits, rises, and hears a better one. No condition. -/
import Derived.Test.YtcgkbbfnlbjblaaRankOpen
namespace Go.Proofs.Ytcgkbbfnlbjblaa.P
open Go.RowKit Go.Proofs.YtcgkbbfnlbjblaaW.PrintWords Go.Proofs.YtcgkbbfnlbjblaaW.PrintLast Go.Proofs.YtcgkbbfnlbjblaaW.PrintMore
set_option linter.unusedVariables false
set_option linter.unusedSimpArgs false
def aliveL (n : Nat) (L : Nat → Option Nd) (k : Int) : Bool := decide (0 ≤ k ∧ k < n) && (L k.toNat).isSome
def turnEL (n : Nat) (L : Nat → Option Nd) (k : Int) (on : Bool) : Int := if 0 ≤ k ∧ k < n then (if (L k.toNat).isSome = on then 8 else 0) else 7
theorem Fld.alive {w : World} {base f g n : Nat} {b s p : Int} {H : Nat → Option Nat} {L : Nat → Option Nd} {told : List Int} (h : Fld w base f g b s p n H L told) (k : Int) : aliveB n H k = aliveL n L k := by
  unfold aliveB aliveL
  by_cases hk : 0 ≤ k ∧ k < n
  · rw [(h.nd.at_ k.toNat (by omega)).some]
  · rw [decide_eq_false hk, Bool.false_and, Bool.false_and]
theorem Fld.turnE {w : World} {base f g n : Nat} {b s p : Int} {H : Nat → Option Nat} {L : Nat → Option Nd} {told : List Int} (h : Fld w base f g b s p n H L told) (k : Int) (on : Bool) : P.turnE n H k on = turnEL n L k on := by
  unfold P.turnE turnEL
  by_cases hk : 0 ≤ k ∧ k < n
  · rw [if_pos hk, if_pos hk, h.alive, aliveL, decide_eq_true hk, Bool.true_and]
  · rw [if_neg hk, if_neg hk]
theorem AliveL_calls (base f g n : Nat) (b s p k : Int) (H : Nat → Option Nat) (L : Nat → Option Nd) (told : List Int) (w : World) (h : Fld w base f g b s p n H L told) (n1 : n ≤ 32) :
    Calls Try.prog 35 #[.pointer (some ⟨f, 0, none⟩), .int .i64 k] w fun e w' => e = .returned (.bool (aliveL n L k)) ∧ Drawn0 w w' := by
  rw [← h.alive k]
  exact Alive_calls base f g n b s p k H L told w h n1
theorem CrashL_calls (base f g n : Nat) (b s p k : Int) (H : Nat → Option Nat) (L : Nat → Option Nd) (told : List Int) (w : World) (h : Fld w base f g b s p n H L told) (hb : base ≤ w.heap.size) (n1 : n ≤ 32) (hr : rightB b s p = true) :
    Calls Try.prog 25 #[.pointer (some ⟨f, 0, none⟩), .int .i64 k] w fun e w' => ∃ H', e = .returned (.int .i64 (turnEL n L k false)) ∧ Fld w' base f g b s p n H' (turnL n L k false) told ∧ Ch (FldS f g H n) w w' := by
  rw [← h.turnE k false]
  exact Crash_calls base f g n b s p k H L told w h hb n1 hr
theorem RestartL_calls (base f g n : Nat) (b s p k : Int) (H : Nat → Option Nat) (L : Nat → Option Nd) (told : List Int) (w : World) (h : Fld w base f g b s p n H L told) (hb : base ≤ w.heap.size) (n1 : n ≤ 32) (hr : rightB b s p = true) :
    Calls Try.prog 27 #[.pointer (some ⟨f, 0, none⟩), .int .i64 k] w fun e w' => ∃ H', e = .returned (.int .i64 (turnEL n L k true)) ∧ Fld w' base f g b s p n H' (turnL n L k true) told ∧ Ch (FldS f g H n) w w' := by
  rw [← h.turnE k true]
  exact Restart_calls base f g n b s p k H L told w h hb n1 hr
/-- However long each waits, and all are in order. -/
def FOk (W : Nat → Int) (p : Int) (n : Nat) (L : Nat → Option Nd) : Prop := ∀ j y, j < n → L j = some y → NdOk (W j) p y
theorem FOk.tick {W : Nat → Int} {p : Int} {n : Nat} {L : Nat → Option Nd} (h : FOk W p n L) (w0 : ∀ j, j < n → 0 ≤ W j) (p0 : 1 ≤ p) (told : List Int) (lost : Bool) : FOk W p n (tickL W p L told lost) := fun j y hj e => by
  unfold tickL at e
  cases hx : L j with
  | none => rw [hx] at e; cases e
  | some x =>
    rw [hx] at e
    cases e
    exact tickN_ok (h j x hj hx) (w0 j hj) p0
theorem FOk.turn {W : Nat → Int} {p : Int} {n : Nat} {L : Nat → Option Nd} (h : FOk W p n L) (w0 : ∀ j, j < n → 0 ≤ W j) (p0 : 1 ≤ p) (k : Int) (on : Bool) : FOk W p n (turnL n L k on) := fun j y hj e => by
  unfold turnL at e
  split at e
  · unfold upd at e
    split at e
    · cases on
      · cases e
      · cases e
        exact ⟨Int.le_refl 0, w0 j hj, Int.le_refl 0, by show (0 : Int) < p; omega⟩
    · exact h j y hj e
  · exact h j y hj e
theorem FOk.opened (W : Nat → Int) (p : Int) (n k : Nat) (w0 : ∀ j, j < n → 0 ≤ W j) (p0 : 1 ≤ p) : FOk W p n (openL k) := fun j y hj e => by
  unfold openL at e
  split at e
  · cases e
    exact ⟨Int.le_refl 0, w0 j hj, Int.le_refl 0, by show (0 : Int) < p; omega⟩
  · cases e
theorem Wait_at (b s p : Int) (j : Nat) : rank_Wait.f b s p (j : Int) = some (waitV b s p (j : Int)) := Wait_eq b s p j
theorem wait_range (b s p r : Int) : 0 ≤ waitV b s p r ∧ waitV b s p r ≤ 41000 := by
  unfold waitV
  split
  · rename_i h
    have a := right_of h.1
    have c := mul_range (rank_of h.2) ⟨a.2.2.1, a.2.2.2.1⟩
    omega
  · omega
def WJ (b s p : Int) (j : Nat) : Int := waitV b s p (j : Int)
/-- A tick of the field, over how the nodes stand alone. -/
theorem FTickL_calls (lost : Bool) (base f g n : Nat) (b s p : Int) (H : Nat → Option Nat) (L : Nat → Option Nd) (told : List Int) (w : World) (h : Fld w base f g b s p n H L told) (hbase : base ≤ w.heap.size) (n1 : n ≤ 32)
    (hr : rightB b s p = true) (ok : FOk (WJ b s p) p n L) :
    Calls Try.prog 30 #[.pointer (some ⟨f, 0, none⟩), .bool lost] w fun e w' => (∃ v, e = .returned v) ∧ Fld w' base f g b s p n H (tickL (WJ b s p) p L told lost) (tickT (WJ b s p) p n L told lost) ∧ Ch (FldS f g H n) w w' :=
  FTick_calls lost base f g n b s p (WJ b s p) H L told w h hbase n1 (fun j _ => Wait_at b s p j) ok (fun j _ => by have := (wait_range b s p (j : Int)).2; show waitV b s p (j : Int) ≤ 1000000; omega) (right_of hr).1 (right_of hr).2.1
theorem Tick_quiet (g : Nat) (b s p r : Int) (n : Nd) (w : World) (h : NdAt w g b s p r n) (hr : rightB b s p = true) (ok : NdOk (waitV b s p r) p n) :
    Calls Try.prog 18 #[.pointer (some ⟨g, 0, none⟩), .slice none 0 0] w fun e w' => e = .returned (.bool (tickN (waitV b s p r) p r [] n).1) ∧ NdAt w' g b s p r (tickN (waitV b s p r) p r [] n).2 ∧ Ch (fun k => k = g) w w' :=
  Tick_calls g b s p r (waitV b s p r) n none 0 [] w h (Nat.le_refl _) ⟨rfl, by decide, fun h => absurd h (Nat.lt_irrefl _)⟩ (Wait_eq b s p r) ok (by have := (wait_range b s p r).2; omega) (right_of hr).1 (right_of hr).2.1
theorem C_one (W : World) (x : Int) : Kd.C (Kd.int .i64) (W.alloc (.cells #[.int .i64 x] 3)) (some ⟨W.heap.size, 0, none⟩) 1 [x] :=
  ⟨rfl, by decide, fun _ => ⟨_, rfl, fun j q hj => by
    cases j with
    | succ j => cases hj
    | zero =>
      cases hj
      refine ⟨[.int .i64 x], rfl, rfl, fun i u hi => ?_⟩
      cases i with
      | succ i => cases hi
      | zero =>
        cases hi
        exact (blk_cell (blk_new W (.cells #[.int .i64 x] 3)) 0).trans rfl⟩⟩
theorem Tick_one (g : Nat) (b s p r x : Int) (n : Nd) (W : World) (h : NdAt W g b s p r n) (hr : rightB b s p = true) (ok : NdOk (waitV b s p r) p n) :
    Calls Try.prog 18 #[.pointer (some ⟨g, 0, none⟩), .slice (some ⟨W.heap.size, 0, none⟩) 1 1] (W.alloc (.cells #[.int .i64 x] 3)) fun e w' => e = .returned (.bool (tickN (waitV b s p r) p r [x] n).1) ∧ NdAt w' g b s p r (tickN (waitV b s p r) p r [x] n).2 ∧ Ch (fun k => k = g) (W.alloc (.cells #[.int .i64 x] 3)) w' :=
  Tick_calls g b s p r (waitV b s p r) n (some ⟨W.heap.size, 0, none⟩) 1 [x] _ (blk_below h (below_alloc (Below.refl _ _) _)) (Nat.le_refl _) (C_one W x) (Wait_eq b s p r) ok (by have := (wait_range b s p r).2; omega) (right_of hr).1 (right_of hr).2.1
theorem Master_calls (g : Nat) (b s p r : Int) (n : Nd) (w : World) (h : NdAt w g b s p r n) :
    Calls Try.prog 20 #[.pointer (some ⟨g, 0, none⟩)] w fun e w' => e = .returned (.bool n.m) ∧ Drawn0 w w' := by
  obtain ⟨c0, c1, c2, c3, c4, c5, c6⟩ := NdAt.cells h
  clear h
  go_enter Try.func20, Try.ntmps20
  go_wp2_with fail
  repeat (go_quiet (fail); try go_wp2)
  go_ret
  exact ⟨rfl, by repeat (first | exact Drawn0.refl _ | apply Drawn0.step)⟩
theorem Idle_calls (g : Nat) (b s p r : Int) (n : Nd) (w : World) (h : NdAt w g b s p r n) :
    Calls Try.prog 21 #[.pointer (some ⟨g, 0, none⟩)] w fun e w' => e = .returned (.int .i64 n.i) ∧ Drawn0 w w' := by
  obtain ⟨c0, c1, c2, c3, c4, c5, c6⟩ := NdAt.cells h
  clear h
  go_enter Try.func21, Try.ntmps21
  go_wp2_with fail
  go_ret
  exact ⟨rfl, Drawn0.refl _⟩
theorem Rank_calls (g : Nat) (b s p r : Int) (n : Nd) (w : World) (h : NdAt w g b s p r n) :
    Calls Try.prog 22 #[.pointer (some ⟨g, 0, none⟩)] w fun e w' => e = .returned (.int .i64 r) ∧ Drawn0 w w' := by
  obtain ⟨c0, c1, c2, c3, c4, c5, c6⟩ := NdAt.cells h
  clear h
  go_enter Try.func22, Try.ntmps22
  go_wp2_with fail
  go_ret
  exact ⟨rfl, Drawn0.refl _⟩
theorem Rank_nil (w : World) : Calls Try.prog 22 #[.pointer none] w fun e w' => e = .returned (.int .i64 (-1)) ∧ Drawn0 w w' := by
  go_enter Try.func22, Try.ntmps22
  go_wp2_with fail
  go_ret
  exact ⟨rfl, Drawn0.refl _⟩
theorem Turn_nil (k : Int) (on : Bool) (w : World) : Calls Try.prog 43 #[.pointer none, .int .i64 k, .bool on] w fun e w' => e = .returned (.int .i64 7) ∧ Drawn0 w w' := by
  go_enter Try.func43, Try.ntmps43
  go_wp2_with fail
  repeat (go_quiet (fail); try go_wp2)
  go_ret
  exact ⟨rfl, by repeat (first | exact Drawn0.refl _ | apply Drawn0.step)⟩
theorem Crash_nil (k : Int) (w : World) : Calls Try.prog 25 #[.pointer none, .int .i64 k] w fun e w' => e = .returned (.int .i64 7) ∧ Drawn0 w w' := by
  go_enter Try.func25, Try.ntmps25
  go_wp2_with fail
  (with_reducible refine (Turn_nil k false _).mono ?_); rintro e w1 ⟨rfl, hd⟩
  have HD := Aside0.mk hd
  clear hd
  go_wp2_with fail
  go_ret
  exact ⟨rfl, HD.out⟩
theorem Those_nil (v : Value) (w : World) : Calls Try.prog 44 #[.pointer none, v] w fun e w' => e = .returned (.slice none 0 0) ∧ Drawn0 w w' := by
  go_enter Try.func44, Try.ntmps44
  go_wp2_with fail
  go_ret
  exact ⟨rfl, Drawn0.refl _⟩
theorem Masters_nil (w : World) : Calls Try.prog 33 #[.pointer none] w fun e w' => e = .returned (.slice none 0 0) ∧ Drawn0 w w' := by
  go_enter Try.func33, Try.ntmps33
  go_wp2_with fail
  (with_reducible refine (Those_nil _ _).mono ?_); rintro e w1 ⟨rfl, hd⟩
  have HD := Aside0.mk hd
  clear hd
  go_wp2_with fail
  go_ret
  exact ⟨rfl, HD.out⟩
end Go.Proofs.Ytcgkbbfnlbjblaa.P
