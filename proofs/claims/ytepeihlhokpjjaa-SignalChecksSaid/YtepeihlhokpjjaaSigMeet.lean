/- Whether two signals share a bit, and whether one lies beyond a frame's bytes. Conditions: those that each lemma names. -/
import Derived.Test.YtepeihlhokpjjaaSigTake
namespace Go.Proofs.Ytepeihlhokpjjaa.P
open Go.RowKit Go.Proofs.YtepeihlhokpjjaaW.PrintWords Go.Proofs.YtepeihlhokpjjaaW.PrintLast Go.Proofs.YtepeihlhokpjjaaW.PrintMore
set_option linter.unusedVariables false
set_option linter.unusedSimpArgs false
def free64 : List Bool := List.replicate 64 false
def meetV (a b : Sg) : Bool := !(takeV (takeV free64 a).1 b).2
theorem ChS.lift {S : Nat → Prop} {B : Nat} {w0 a b : World} (h : Below B w0 a) (g : ChS S a b) (hB : B ≤ w0.heap.size) (hS : ∀ k, S k → B ≤ k) : Below B w0 b :=
  ⟨g.os.trans h.os, g.tape.trans h.tape, g.output.trans h.output, Nat.le_trans h.size g.size, fun k hk => (g.keep k (by have := h.size; omega) (fun s => by have := hS k s; omega)).trans (h.block k hk)⟩
set_option maxHeartbeats 4000000 in
set_option maxRecDepth 100000 in
theorem Meet_walk (a b : Sg) (w : World) : Calls Try.prog 30 #[a.g, b.g] w fun e w' => e = .returned (.bool (meetV a b)) ∧ Below w.heap.size w w' := by
  have hu23 := Try.underlying23
  have hu63 := Try.underlying63
  have MV : Aside0 (meetV a b = !(takeV (takeV free64 a).1 b).2) := ⟨rfl⟩
  generalize meetV a b = mv at MV ⊢
  have KT : ∀ cs : Array Value, cs = boolsA free64 → (((w.alloc a.cs).alloc b.cs).alloc (.cells cs 63)).heap[w.heap.size + 1 + 1]? = some (.cells (boolsA free64) 63 (0, 0)) := fun cs e => by
    subst e
    have := blk_new ((w.alloc a.cs).alloc b.cs) (.cells (boolsA free64) 63)
    simpa using this
  have KT := Aside0.mk KT
  have KB : Aside0 (∀ o : Obj, (((w.alloc a.cs).alloc b.cs).alloc o).heap[w.heap.size + 1]? = some b.cs ∧ Below w.heap.size w (((w.alloc a.cs).alloc b.cs).alloc o)) := ⟨fun o => ⟨blk_below (blk_new2 w a.cs b.cs) (below_alloc (Below.refl _ _) _), below_alloc (below_alloc (below_alloc (Below.refl _ _) _) _) _⟩⟩
  go_enter Try.func30, Try.ntmps30
  go_wp2_with fail
  (with_reducible refine (Take_walk free64 (by decide) _ a _ (KT.out _ (by kernel_rfl))).mono ?_)
  rintro e W ⟨rfl, hk, hc⟩
  have kb : W.heap[w.heap.size + 1]? = some b.cs := hc.blk (KB.out _).1 (by omega)
  have HK := Aside0.mk hk
  have B1 := Aside0.mk (hc.lift (KB.out _).2 (Nat.le_refl _) (fun k e => by omega))
  obtain ⟨c0, c1, c2, c3, c4, c5⟩ := sg_cells kb
  have T1 : Aside0 ((takeV free64 a).1.length = 64) := ⟨takeL_len _ _ _⟩
  generalize (takeV free64 a).1 = t1 at HK MV T1
  generalize (takeV free64 a).2 = f1
  clear hk hc kb KT KB
  go_wp2_with fail
  (with_reducible refine (Take_walk t1 T1.out _ b _ HK.out).mono ?_)
  rintro e W2 ⟨rfl, hk, hc⟩
  have B2 := Aside0.mk (hc.lift B1.out (Nat.le_refl _) (fun k e => by omega))
  clear hk hc
  generalize (takeV t1 b).2 = f2 at MV
  go_wp2
  go_ret
  exact ⟨by rw [MV.out]; rfl, B2.out⟩
set_option maxHeartbeats 4000000 in
set_option maxRecDepth 100000 in
theorem Beyond_walk (x b : Int) (bb : Nat) (w : World) (h : w.heap[bb]? = some (.cells #[.int .i64 b] 3 (0, 0))) (b0 : 0 ≤ b) (b1 : b ≤ 8) :
    Calls Try.prog 46 #[.int .i64 x, .pointer (some ⟨bb, 0, none⟩)] w fun e w' => e = .returned (.bool (decide (x ≥ 8 * b))) ∧ Below w.heap.size w w' := by
  have c0 : w.cell? ⟨bb, 0, none⟩ = some (.int .i64 b) := (blk_cell h 0).trans rfl
  have e1 : wrap64 (8 * b) = 8 * b := wr_small _ (by omega) (by omega)
  obtain ⟨r, hr⟩ : ∃ r, decide (x ≥ 8 * b) = r := ⟨_, rfl⟩
  rw [hr]
  go_enter Try.func46, Try.ntmps46
  go_wp2
  go_ret
  exact ⟨rfl, Below.refl _ _⟩
set_option maxHeartbeats 4000000 in
set_option maxRecDepth 100000 in
theorem Index_walk (l : List Int) (hl : l.length ≤ 64) (A : Option Addr) (cp : Nat) (b : Int) (bb : Nat) (w : World) (h : w.heap[bb]? = some (.cells #[.int .i64 b] 3 (0, 0))) (b0 : 0 ≤ b) (b1 : b ≤ 8) (hC : (Kd.int .i64).C w A l.length l) :
    Calls Try.prog 58 #[.slice A l.length cp, .func (.func 46) #[] #[.pointer (some ⟨bb, 0, none⟩)]] w fun e w' => (∃ r, e = .returned (.int .i64 r) ∧ decide (r ≥ 0) = l.any (fun x => decide (x ≥ 8 * b))) ∧ Below w.heap.size w w' := by
  have hu35 := Try.underlying35
  have HB0 := Aside0.mk (And.intro b0 b1)
  have H8 := Aside0.mk h
  have HC := Aside0.mk hC
  have LL := Aside0.mk hl
  clear h hC b0 b1 hl
  have AB : Aside0 ((l.drop 0).any (fun x => decide (x ≥ 8 * b)) = l.any (fun x => decide (x ≥ 8 * b))) := ⟨rfl⟩
  generalize l.any (fun x => decide (x ≥ 8 * b)) = an at AB ⊢
  go_enter Try.func58, Try.ntmps58
  go_wp2
  go_loopg [8] (l.length + 1) (fun kq v8 w' => ∃ (k : Nat), v8 = .int .i64 (k : Int) ∧ Aside0 (k ≤ l.length ∧ l.length < k + kq) ∧ Aside0 ((l.drop k).any (fun x => decide (x ≥ 8 * b)) = an) ∧ Aside0 (Below w.heap.size w w'))
  case atStart => exact ⟨0, rfl, ⟨by omega⟩, AB, ⟨Below.refl _ _⟩⟩
  case round =>
    clear AB
    obtain ⟨k, rfl, HK, HL, HB⟩ := hrel
    cases gk with
    | zero => exact absurd HK.out (by omega)
    | succ k1 =>
      by_cases hlt : k < l.length
      · have u1 : decide ((k : Int) < (l.length : Int)) = true := decide_eq_true (by omega)
        have u1b : decide (k < l.length) = true := decide_eq_true hlt
        have p1 : (0 ≤ (k : Int)) = True := eq_true (by omega)
        have q1 : ((k : Int) < (l.length : Int)) = True := eq_true (by omega)
        obtain ⟨ad, ea, hx⟩ := Kd.at_int (Kd.C_below HC.out HB.out) (k : Int) (by omega) (by omega)
        cases ea
        rw [Int.toNat_natCast] at hx
        have HL2 : Aside0 ((decide (rd l (k : Int) ≥ 8 * b) || (l.drop (k + 1)).any (fun x => decide (x ≥ 8 * b))) = an) := ⟨by
          have := HL.out
          rw [drop_rd hlt] at this
          exact this⟩
        generalize rd l (k : Int) = a at hx HL2
        have k1' : wrap64 ((k : Int) + 1) = ((k + 1 : Nat) : Int) := by rw [wr_small _ (by omega) (by have := LL.out; omega)]; rfl
        go_wp2_with fail
        (with_reducible refine (Beyond_walk a b bb _ (blk_below H8.out HB.out) HB0.out.1 HB0.out.2).mono ?_)
        rintro e w5 ⟨rfl, hb⟩
        have HB5 := Aside0.mk (below_step HB.out hb)
        clear hb
        generalize decide (a ≥ 8 * b) = q at HL2
        cases q
        · go_wp2
          go_roundg k1
          case rel => exact ⟨k + 1, by rw [k1'], ⟨by have := HK.out; omega⟩, ⟨by rw [← HL2.out, Bool.false_or]⟩, HB5⟩
          case measure => omega
        · go_wp2
          go_ret
          exact ⟨⟨(k : Int), rfl, by rw [← HL2.out, Bool.true_or]; exact decide_eq_true (by omega)⟩, HB5.out⟩
      · have u1 : decide ((k : Int) < (l.length : Int)) = false := decide_eq_false (by omega)
        have u1b : decide (k < l.length) = false := decide_eq_false hlt
        have EN : Aside0 (an = false) := ⟨by
          have := HL.out
          rw [show k = l.length by have := HK.out; omega, List.drop_length] at this
          exact this.symm⟩
        clear hlt HL
        go_wp2
        go_ret
        exact ⟨⟨-1, rfl, by rw [EN.out]; rfl⟩, HB.out⟩
set_option maxHeartbeats 4000000 in
set_option maxRecDepth 100000 in
theorem Contains_walk (l : List Int) (hl : l.length ≤ 64) (A : Option Addr) (cp : Nat) (b : Int) (bb : Nat) (w : World) (h : w.heap[bb]? = some (.cells #[.int .i64 b] 3 (0, 0))) (b0 : 0 ≤ b) (b1 : b ≤ 8) (hC : (Kd.int .i64).C w A l.length l) :
    Calls Try.prog 47 #[.slice A l.length cp, .func (.func 46) #[] #[.pointer (some ⟨bb, 0, none⟩)]] w fun e w' => e = .returned (.bool (l.any (fun x => decide (x ≥ 8 * b)))) ∧ Below w.heap.size w w' := by
  have IC := Aside0.mk (Index_walk l hl A cp b bb w h b0 b1 hC)
  clear h hC b0 b1 hl
  generalize l.any (fun x => decide (x ≥ 8 * b)) = an at IC ⊢
  go_enter Try.func47, Try.ntmps47
  go_wp2_with fail
  (with_reducible refine IC.out.mono ?_)
  rintro e W ⟨⟨r, rfl, hr⟩, hb⟩
  have B := Aside0.mk hb
  clear hb
  go_wp2
  go_ret
  exact ⟨rfl, B.out⟩
end Go.Proofs.Ytepeihlhokpjjaa.P
