/- What a node of a rank comes to by the program: whether it hears a better one, and a tick. Conditions: the ranges that each lemma names. -/
import Derived.Test.YtcgkbbfnlbjblaaPx
namespace Go.Proofs.Ytcgkbbfnlbjblaa.P
open Go.RowKit Go.Proofs.YtcgkbbfnlbjblaaW.PrintWords Go.Proofs.YtcgkbbfnlbjblaaW.PrintLast Go.Proofs.YtcgkbbfnlbjblaaW.PrintMore
set_option linter.unusedVariables false
set_option linter.unusedSimpArgs false
/-- Nothing elder has changed but blocks of S. -/
structure Ch (S : Nat → Prop) (w w' : World) : Prop where
  os : w'.os = w.os
  tape : w'.tape = w.tape
  output : w'.output = w.output
  size : w.heap.size ≤ w'.heap.size
  keep : ∀ k, k < w.heap.size → ¬ S k → w'.heap[k]? = w.heap[k]?
theorem Ch.refl (S : Nat → Prop) (w : World) : Ch S w w := ⟨rfl, rfl, rfl, Nat.le_refl _, fun _ _ _ => rfl⟩
theorem Ch.trans {S : Nat → Prop} {a b c : World} (h : Ch S a b) (g : Ch S b c) : Ch S a c :=
  ⟨g.os.trans h.os, g.tape.trans h.tape, g.output.trans h.output, Nat.le_trans h.size g.size, fun k hk hs => (g.keep k (Nat.lt_of_lt_of_le hk h.size) hs).trans (h.keep k hk hs)⟩
theorem Ch.mono {S T : Nat → Prop} {a b : World} (h : Ch S a b) (hs : ∀ k, S k → T k) : Ch T a b := ⟨h.os, h.tape, h.output, h.size, fun k hk ht => h.keep k hk (fun s => ht (hs k s))⟩
theorem Ch.mono' {S T : Nat → Prop} {a b : World} (h : Ch S a b) (hs : ∀ k, k < a.heap.size → S k → T k) : Ch T a b := ⟨h.os, h.tape, h.output, h.size, fun k hk ht => h.keep k hk (fun s => ht (hs k hk s))⟩
theorem Ch.of {a b : World} (h : Below a.heap.size a b) (S : Nat → Prop) : Ch S a b := ⟨h.os, h.tape, h.output, h.size, fun k hk _ => h.block k hk⟩
theorem Ch.below {S : Nat → Prop} {a b : World} {B : Nat} (h : Ch S a b) (hB : B ≤ a.heap.size) (hs : ∀ k, S k → B ≤ k) : Below B a b :=
  ⟨h.os, h.tape, h.output, h.size, fun k hk => h.keep k (by omega) (fun s => by have := hs k s; omega)⟩
theorem Ch.set {S : Nat → Prop} {a b : World} (h : Ch S a b) {p : Addr} (hp : S p.block ∨ a.heap.size ≤ p.block) (u : Value) : Ch S a (b.setCell p u) :=
  ⟨h.os, h.tape, h.output, by simpa [World.setCell] using h.size, fun k hk hs => (Below.heap_setCell _ _ _ _ (fun e => hp.elim (fun s => hs (by rw [e]; exact s)) (fun s => by omega))).trans (h.keep k hk hs)⟩
theorem Ch.step {S : Nat → Prop} {a b c : World} (h : Ch S a b) (g : Below b.heap.size b c) : Ch S a c := h.trans (Ch.of g S)
theorem Ch.alloc {S : Nat → Prop} {a b : World} (h : Ch S a b) (o : Obj) : Ch S a (b.alloc o) := h.step (below_alloc (Below.refl _ _) o)
theorem Ch.drewN {S : Nat → Prop} {a b : World} (h : Ch S a b) (n : Nat) : Ch S a (b.drewN n) := h.step (Drawn0.below ⟨⟨n, rfl⟩⟩)
theorem Ch.blk {S : Nat → Prop} {a b : World} (h : Ch S a b) {k : Nat} {o : Obj} (hk : a.heap[k]? = some o) (hs : ¬ S k) : b.heap[k]? = some o := (h.keep k (Array.getElem?_eq_some_iff.1 hk).1 hs).trans hk
/-- How a node stands. -/
structure Nd where
  m : Bool
  i : Int
  q : Int
def NdAt (w : World) (g : Nat) (b s p r : Int) (n : Nd) : Prop := w.heap[g]? = some (.cells #[.int .i64 b, .int .i64 s, .int .i64 p, .int .i64 r, .bool n.m, .int .i64 n.i, .int .i64 n.q] 77 (0, 0))
def betterB (r x : Int) : Bool := decide (0 ≤ x) && decide (x < r)
def tickN (wt p r : Int) (zs : List Int) (n : Nd) : Bool × Nd :=
  if zs.any (betterB r) = true then (false, ⟨false, 0, n.q⟩)
  else if n.m = true then (Int.tmod (n.q + 1) p == 0, ⟨true, n.i, Int.tmod (n.q + 1) p⟩)
  else if wt < n.i + 1 then (true, ⟨true, 0, 0⟩) else (false, ⟨false, n.i + 1, n.q⟩)
theorem better_calls (g : Nat) (r x : Int) (w : World) (hc : w.cell? ⟨g, 3, none⟩ = some (.int .i64 r)) :
    Calls Try.prog 41 #[.pointer (some ⟨g, 0, none⟩), .int .i64 x] w fun e w' => e = .returned (.bool (betterB r x)) ∧ Drawn0 w w' := by
  by_cases h1 : 0 ≤ x
  · have u1 : decide (0 ≤ x) = true := decide_eq_true h1
    have u2 : decide (x ≥ 0) = true := decide_eq_true h1
    have e1 : betterB r x = decide (x < r) := by rw [betterB, u1, Bool.true_and]
    rw [e1]
    clear h1 e1
    go_enter Try.func41, Try.ntmps41
    go_wp2_with fail
    repeat (go_quiet (fail); try go_wp2)
    go_ret
    exact ⟨rfl, by repeat (first | exact Drawn0.refl _ | apply Drawn0.step)⟩
  · have u1 : decide (0 ≤ x) = false := decide_eq_false h1
    have u2 : decide (x ≥ 0) = false := decide_eq_false h1
    have e1 : betterB r x = false := by rw [betterB, u1, Bool.false_and]
    rw [e1]
    clear h1 e1
    go_enter Try.func41, Try.ntmps41
    go_wp2_with fail
    repeat (go_quiet (fail); try go_wp2)
    go_ret
    exact ⟨rfl, by repeat (first | exact Drawn0.refl _ | apply Drawn0.step)⟩
theorem any_take {f : Int → Bool} {zs : List Int} {j : Nat} (hj : j < zs.length) : (zs.take (j + 1)).any f = ((zs.take j).any f || f (rd zs (j : Int))) := by
  rw [List.take_add_one, List.getElem?_eq_getElem hj, List.any_append]
  simp [rd, List.getD_eq_getElem?_getD, List.getElem?_eq_getElem hj]
theorem any_at {f : Int → Bool} {zs : List Int} {j : Nat} (hj : j < zs.length) (h : f (rd zs (j : Int)) = true) : zs.any f = true := by
  rw [List.any_eq_true]
  refine ⟨zs[j], List.getElem_mem hj, ?_⟩
  simpa [rd, List.getD_eq_getElem?_getD, List.getElem?_eq_getElem hj] using h
set_option maxHeartbeats 4000000 in
set_option maxRecDepth 100000 in
theorem IndexFunc_calls (g : Nat) (r : Int) (A : Option Addr) (c : Nat) (zs : List Int) (w : World) (hl : zs.length ≤ c) (hz : Kd.C (Kd.int .i64) w A zs.length zs) (hc : w.cell? ⟨g, 3, none⟩ = some (.int .i64 r)) :
    Calls Try.prog 46 #[.slice A zs.length c, .func (.func 41) #[.pointer (some ⟨g, 0, none⟩)] #[]] w fun e w' => ∃ x, e = .returned (.int .i64 x) ∧ decide (x ≥ 0) = zs.any (betterB r) ∧ Drawn0 w w' := by
  have HZ := Aside0.mk hz
  have hlen := hz.2.1
  clear hz
  go_enter Try.func46, Try.ntmps46
  go_wp2_with fail
  go_loopg [8] zs.length (fun kq v w' => ∃ j : Nat, v = .int .i64 (j : Int) ∧ Aside0 (j + kq = zs.length) ∧ Aside0 ((zs.take j).any (betterB r) = false) ∧ Drawn0 w w')
  case atStart => exact ⟨0, rfl, ⟨by omega⟩, ⟨by simp⟩, Drawn0.refl _⟩
  case round =>
    obtain ⟨j, rfl, HJ, HA, ⟨m, rfl⟩⟩ := hrel
    cases gk with
    | zero =>
      have u1 : decide (j < zs.length) = false := decide_eq_false (by have := HJ.out; omega)
      have u2 : decide ((j : Int) < (zs.length : Int)) = false := decide_eq_false (by have := HJ.out; omega)
      go_wp2_with fail
      go_ret
      refine ⟨-1, rfl, ?_, ⟨⟨m, rfl⟩⟩⟩
      have := HA.out
      rw [List.take_of_length_le (by have := HJ.out; omega)] at this
      rw [this]
      rfl
    | succ k1 =>
      have hj : j < zs.length := by have := HJ.out; omega
      have u1 : decide ((j : Int) < (zs.length : Int)) = true := decide_eq_true (by omega)
      obtain ⟨ad, e1, hx⟩ := Kd.at_int HZ.out (j : Int) (by omega) (by omega)
      cases e1
      have u2 : (0 ≤ (j : Int)) = True := eq_true (by omega)
      have u3 : ((j : Int) < (zs.length : Int)) = True := eq_true (by omega)
      have HJL := Aside0.mk hj
      have hx' : (w.drewN m).cell? (ad.add j) = some (.int .i64 (rd zs (j : Int))) := hx
      have hc' : (w.drewN m).cell? ⟨g, 3, none⟩ = some (.int .i64 r) := hc
      clear hj
      go_wp2_with fail
      (with_reducible refine (better_calls g r (rd zs (j : Int)) _ hc').mono ?_); rintro e w2 ⟨rfl, ⟨m2, rfl⟩⟩
      cases hb : betterB r (rd zs (j : Int))
      · go_wp2_with fail
        go_roundg k1
        case measure => omega
        case rel =>
          refine ⟨j + 1, ?_, ⟨by have := HJ.out; omega⟩, ⟨?_⟩, by repeat (first | exact Drawn0.refl _ | apply Drawn0.step)⟩
          · rw [i64w _ (by omega) (by have := HJL.out; omega)]; rfl
          · rw [any_take HJL.out, HA.out, hb]; rfl
      · go_wp2_with fail
        go_ret
        exact ⟨(j : Int), rfl, by rw [any_at HJL.out hb]; exact decide_eq_true (by omega), by repeat (first | exact Drawn0.refl _ | apply Drawn0.step)⟩
theorem ContainsFunc_calls (g : Nat) (r : Int) (A : Option Addr) (c : Nat) (zs : List Int) (w : World) (hl : zs.length ≤ c) (hz : Kd.C (Kd.int .i64) w A zs.length zs) (hc : w.cell? ⟨g, 3, none⟩ = some (.int .i64 r)) :
    Calls Try.prog 40 #[.slice A zs.length c, .func (.func 41) #[.pointer (some ⟨g, 0, none⟩)] #[]] w fun e w' => e = .returned (.bool (zs.any (betterB r))) ∧ Drawn0 w w' := by
  have HZ := Aside0.mk hz
  have HL := Aside0.mk hl
  clear hz hl
  go_enter Try.func40, Try.ntmps40
  go_wp2_with fail
  (with_reducible refine (IndexFunc_calls g r A c zs _ HL.out HZ.out hc).mono ?_); rintro e w1 ⟨x, rfl, hx, ⟨m, rfl⟩⟩
  have HX := Aside0.mk hx
  clear hx
  go_wp2_with fail
  go_ret
  exact ⟨congrArg (fun z => Ending.returned (.bool z)) HX.out, ⟨⟨m, rfl⟩⟩⟩
theorem Tick_nil (v : Value) (w : World) : Calls Try.prog 18 #[.pointer none, v] w fun e w' => e = .returned (.bool false) ∧ Drawn0 w w' := by
  go_enter Try.func18, Try.ntmps18
  go_wp2_with fail
  go_ret
  exact ⟨rfl, Drawn0.refl _⟩
end Go.Proofs.Ytcgkbbfnlbjblaa.P
