/- Which bits are taken, and whether two signals share one. Conditions: those that each lemma names. -/
import Derived.Test.YtepeihlhokpjjaaSigGet
namespace Go.Proofs.Ytepeihlhokpjjaa.P
open Go.RowKit Go.Proofs.YtepeihlhokpjjaaW.PrintWords Go.Proofs.YtepeihlhokpjjaaW.PrintLast Go.Proofs.YtepeihlhokpjjaaW.PrintMore
set_option linter.unusedVariables false
set_option linter.unusedSimpArgs false
def boolsA (t : List Bool) : Array Value := (t.map Value.bool).toArray
theorem boolsA_set (d : List Bool) (i : Nat) (x : Bool) : (boolsA d).setIfInBounds i (.bool x) = boolsA (d.set i x) := by
  simp [boolsA, List.map_set]
theorem boolsA_at {w : World} {g : Nat} {d : List Bool} (h : w.heap[g]? = some (.cells (boolsA d) 63 (0, 0))) (q : Int) (h0 : 0 ≤ q) (h1 : q < d.length) : w.cell? ⟨g, q.toNat, none⟩ = some (.bool (d.getD q.toNat false)) := by
  rw [blk_cell h]
  unfold boolsA
  have : q.toNat < d.length := by omega
  simp [this]
def takeL : List Int → List Bool → Bool → List Bool × Bool
  | [], t, f => (t, f)
  | a :: r, t, f => takeL r (t.set a.toNat true) (f && !t.getD a.toNat false)
/-- What is taken behind, and whether all of it was free. -/
def takeV (t : List Bool) (s : Sg) : List Bool × Bool := takeL (placesV s) t true
theorem takeL_len : ∀ (l : List Int) (t : List Bool) (f : Bool), (takeL l t f).1.length = t.length
  | [], t, f => rfl
  | a :: r, t, f => by
    show (takeL r _ _).1.length = _
    rw [takeL_len, List.length_set]
structure Tk (t : List Bool) (s : Sg) (bt bs : Nat) (w W : World) : Prop where
  kt : W.heap[bt]? = some (.cells (boolsA t) 63 (0, 0))
  ks : W.heap[bs]? = some s.cs
  C : ChS (fun k => k = bt) w W
  n : bt < w.heap.size
  m : w.heap.size ≤ bs
section
variable {t : List Bool} {s : Sg} {bt bs : Nat} {w W W' : World}
theorem Tk.below (h : Tk t s bt bs w W) (hb : Below W.heap.size W W') : Tk t s bt bs w W' := ⟨blk_below h.kt hb, blk_below h.ks hb, h.C.trans (ChS.of hb _), h.n, h.m⟩
theorem Tk.put (h : Tk t s bt bs w W) (i : Nat) (x : Bool) : Tk (t.set i x) s bt bs w (W.setCell ⟨bt, i, none⟩ (.bool x)) := by
  have ne : bs ≠ bt := by have := h.n; have := h.m; omega
  refine ⟨?_, (Below.heap_setCell _ _ _ _ ne).trans h.ks, h.C.trans ⟨rfl, rfl, rfl, by simp, fun k _ hk => Below.heap_setCell _ _ _ _ hk⟩, h.n, h.m⟩
  have := blk_set h.kt i (.bool x)
  rw [boolsA_set] at this
  exact this
end
theorem Tk.made {t : List Bool} {bt : Nat} {w : World} (s : Sg) (h : w.heap[bt]? = some (.cells (boolsA t) 63 (0, 0))) : Tk t s bt w.heap.size w (w.alloc s.cs) :=
  ⟨blk_below h (below_alloc (Below.refl _ _) _), blk_new _ _, ChS.of (below_alloc (Below.refl _ _) _) _, blk_lt h, Nat.le_refl _⟩
set_option maxHeartbeats 4000000 in
set_option maxRecDepth 100000 in
theorem Take_walk (t : List Bool) (ht : t.length = 64) (bt : Nat) (s : Sg) (w : World) (hbt : w.heap[bt]? = some (.cells (boolsA t) 63 (0, 0))) :
    Calls Try.prog 48 #[.pointer (some ⟨bt, 0, none⟩), s.g] w fun e w' => e = .returned (.bool (takeV t s).2) ∧ w'.heap[bt]? = some (.cells (boolsA (takeV t s).1) 63 (0, 0)) ∧ ChS (fun k => k = bt) w w' := by
  have hu23 := Try.underlying23
  have hu63 := Try.underlying63
  have hu35 := Try.underlying35
  have PC := Aside0.mk (Places_walk s)
  have PR := Aside0.mk (placesV_range s)
  have PL := Aside0.mk (placesV_len s)
  have D8 := Aside0.mk ht
  clear ht
  have TV : Aside0 (takeV t s = takeL (placesV s) t true) := ⟨rfl⟩
  generalize takeV t s = tv at TV ⊢
  generalize placesV s = l at PC PR PL TV
  have Z := Aside0.mk (Tk.made s hbt)
  clear hbt
  go_enter Try.func48, Try.ntmps48
  go_wp2_with fail
  (with_reducible refine (PC.out _).mono ?_)
  rintro e W ⟨v, rfl, hR, _, hb⟩
  have Z2 := Aside0.mk (Z.out.below hb)
  have HR0 := Aside0.mk (Kd.R_types (Kd.R_lower hR Z.out.C.size) Z2.out.kt (by intro q hq; simp [Kd.int, Kd.scalar] at hq; subst hq; decide))
  clear Z hb hR
  have Z := Z2
  clear Z2
  obtain ⟨A, cp, ev⟩ := Kd.R_slice HR0.out
  subst ev
  have H0 : Aside0 (t.length = 64 ∧ takeL (l.drop 0) t true = tv) := ⟨D8.out, TV.out.symm⟩
  clear TV D8
  go_wp2
  go_loopg [5, 11] (l.length + 1) (fun kq v5 v11 w' => ∃ (k : Nat) (tc : List Bool) (f : Bool), v5 = .bool f ∧ v11 = .int .i64 (k : Int) ∧ Aside0 (k ≤ l.length ∧ l.length < k + kq) ∧ Aside0 (tc.length = 64 ∧ takeL (l.drop k) tc f = tv) ∧ Aside0 (Tk tc s bt w.heap.size w w') ∧ Aside0 (Kd.R (Kd.int .i64) 3 w' w.heap.size (fun k => True ∧ k ≠ bt) (.slice A l.length cp) l))
  case atStart => exact ⟨0, t, true, rfl, rfl, ⟨by omega⟩, H0, Z, HR0⟩
  case round =>
    clear H0 Z HR0
    obtain ⟨k, tc, f, rfl, rfl, HK, HL, Z, HR⟩ := hrel
    cases gk with
    | zero => exact absurd HK.out (by omega)
    | succ k1 =>
      by_cases hlt : k < l.length
      · have u1 : decide ((k : Int) < (l.length : Int)) = true := decide_eq_true (by omega)
        have u1b : decide (k < l.length) = true := decide_eq_true hlt
        have p1 : (0 ≤ (k : Int)) = True := eq_true (by omega)
        have q1 : ((k : Int) < (l.length : Int)) = True := eq_true (by omega)
        obtain ⟨ad, ea, hx⟩ := Kd.at_int (Kd.R_reads' HR.out).2.2 (k : Int) (by omega) (by omega)
        cases ea
        rw [Int.toNat_natCast] at hx
        have hrg := PR.out _ (rd_mem hlt)
        have HL2 : Aside0 (takeL (l.drop (k + 1)) (tc.set (rd l (k : Int)).toNat true) (f && !tc.getD (rd l (k : Int)).toNat false) = tv) := ⟨by
          have := HL.out.2
          rw [drop_rd hlt] at this
          exact this⟩
        generalize rd l (k : Int) = a at hx hrg HL2
        have hby := boolsA_at Z.out.kt a hrg.1 (by rw [HL.out.1]; exact hrg.2)
        have hfr := blk_frozen Z.out.kt a.toNat
        have p2 : (0 ≤ a) = True := eq_true hrg.1
        have q2 : (a < 64) = True := eq_true hrg.2
        have k1' : wrap64 ((k : Int) + 1) = ((k + 1 : Nat) : Int) := by rw [wr_small _ (by omega) (by have := PL.out; omega)]; rfl
        clear hrg
        cases f
        · go_wp2
          go_roundg k1
          case rel => exact ⟨k + 1, _, _, rfl, by rw [k1'], ⟨by have := HK.out; omega⟩, ⟨by rw [List.length_set]; exact HL.out.1, HL2.out⟩, ⟨Z.out.put _ _⟩, ⟨Kd.R_far HR.out (fun k h => h.2) _⟩⟩
          case measure => omega
        · go_wp2
          go_roundg k1
          case rel => exact ⟨k + 1, _, _, rfl, by rw [k1'], ⟨by have := HK.out; omega⟩, ⟨by rw [List.length_set]; exact HL.out.1, HL2.out⟩, ⟨Z.out.put _ _⟩, ⟨Kd.R_far HR.out (fun k h => h.2) _⟩⟩
          case measure => omega
      · have u1 : decide ((k : Int) < (l.length : Int)) = false := decide_eq_false (by omega)
        have u1b : decide (k < l.length) = false := decide_eq_false hlt
        have EN : Aside0 ((tc, f) = tv) := ⟨by
          have := HL.out.2
          rw [show k = l.length by have := HK.out; omega, List.drop_length] at this
          exact this⟩
        clear hlt HL
        go_wp2
        go_ret
        exact ⟨by rw [← EN.out]; rfl, by rw [← EN.out]; exact Z.out.kt, Z.out.C⟩
end Go.Proofs.Ytepeihlhokpjjaa.P
