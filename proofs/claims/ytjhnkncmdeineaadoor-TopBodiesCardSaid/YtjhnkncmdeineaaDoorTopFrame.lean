/- Frames of words, and what is wrong with a frame, by the program. Conditions: those that each lemma names. -/
import Derived.Test.YtjhnkncmdeineaaDoorTopSlave

namespace Go.Proofs.YtjhnkncmdeineaaDoor.P
open Go.RowKit Go.Proofs.YtjhnkncmdeineaaDoorW.PrintWords Go.Proofs.YtjhnkncmdeineaaDoorW.PrintLast Go.Proofs.YtjhnkncmdeineaaDoorW.PrintMore Go.Shelf
set_option linter.unusedVariables false
set_option linter.unusedSimpArgs false
theorem C_blk {W : World} {g t : Nat} {cs : Array Value} (h : W.heap[g]? = some (.cells cs t (0, 0))) (off n : Nat) (xs : List Int) (hn : xs.length = n) (hm : n ≤ 100) (hx : ∀ j x, xs[j]? = some x → cs[off + j]? = some (.int .u8 x)) : (Kd.int .u8).C W (some ⟨g, off, none⟩) n xs := by
  refine ⟨hn, by omega, fun _ => ⟨⟨g, off, none⟩, rfl, fun j p hj => ⟨[.int .u8 p], rfl, rfl, fun i u hi => ?_⟩⟩⟩
  match i, hi with
  | 0, hi =>
    have e : u = .int .u8 p := by simpa using hi.symm
    subst e
    have ea : (⟨g, off, none⟩ : Addr).add (j * (Kd.int .u8).sz + 0) = ⟨g, off + j, none⟩ := by
      show (⟨g, off, none⟩ : Addr).add (j * 1 + 0) = _
      unfold Addr.add
      split
      · next hz => rw [show j = 0 by omega]; rfl
      · next hz => simp
    rw [ea, blk_cell h (off + j)]
    exact hx j p hj
  | i + 1, hi => simp at hi
set_option maxHeartbeats 1000000 in
theorem nonzero_calls (w : World) : Calls Tryd.prog 16 #[.int .u8 0] w fun e w' => e = .returned (.bool false) ∧ Below w.heap.size w w' := by
  have B := Aside0.mk (Below.refl w.heap.size w)
  go_enter Tryd.func16, Tryd.ntmps16
  go_wp2
  go_ret
  exact ⟨rfl, B.out⟩
set_option maxHeartbeats 2000000 in
set_option maxRecDepth 100000 in
theorem IndexFunc_calls (A : Option Addr) (cap : Nat) (xs : List Int) (hx : ∀ x ∈ xs, x = 0) (hm : xs.length ≤ 100) (w : World) (hC : (Kd.int .u8).C w A xs.length xs) :
    Calls Tryd.prog 22 #[.slice A xs.length cap, .func (.func 16) #[] #[]] w fun e w' => e = .returned (.int .i64 (-1)) ∧ Below w.heap.size w w' := by
  have HC := Aside0.mk hC
  have HX := Aside0.mk hx
  have HM := Aside0.mk hm
  clear hC hx hm
  go_enter Tryd.func22, Tryd.ntmps22
  go_wp2
  go_loopg [8] (xs.length + 1) (fun kq v8 w' => ∃ (k : Nat), v8 = .int .i64 (k : Int) ∧ Aside0 (k ≤ xs.length ∧ xs.length < k + kq) ∧ Aside0 (Below w.heap.size w w'))
  case atStart => exact ⟨0, rfl, ⟨by omega⟩, ⟨Below.refl _ _⟩⟩
  case round =>
    obtain ⟨k, rfl, HK, B⟩ := hrel
    cases gk with
    | zero => exact absurd HK.out (by omega)
    | succ k1 =>
      by_cases hlt : k < xs.length
      · have u4 : decide ((k : Int) < (xs.length : Int)) = true := decide_eq_true (by omega)
        have u4b : decide (k < xs.length) = true := decide_eq_true hlt
        have p1 : (0 ≤ (k : Int)) = True := eq_true (by omega)
        have q1 : ((k : Int) < (xs.length : Int)) = True := eq_true (by omega)
        obtain ⟨ad, ea, y0⟩ := Kd.at_int (Kd.C_below HC.out B.out) (k : Int) (by omega) (by omega)
        cases ea
        have k1' : wrap64 ((k : Int) + 1) = ((k + 1 : Nat) : Int) := by rw [i64w _ (by omega) (by have := HM.out; omega)]; rfl
        have ex : rd xs (k : Int) = 0 := by
          have : rd xs (k : Int) = xs[k] := by simp [rd, hlt]
          rw [this]
          exact HX.out _ (List.getElem_mem hlt)
        rw [ex] at y0
        simp only [Int.toNat_natCast] at y0
        have KL := Aside0.mk hlt
        clear ex hlt
        go_wp2_with fail
        (with_reducible refine (nonzero_calls _).mono ?_)
        rintro e W1 ⟨rfl, hb⟩
        have nB := Aside0.mk (below_step B.out hb)
        clear hb B y0
        go_wp2
        go_roundg k1
        case rel => exact ⟨k + 1, by first | rfl | rw [k1'], ⟨by have := HK.out; have := KL.out; omega⟩, nB⟩
        case measure => omega
      · have u4 : decide ((k : Int) < (xs.length : Int)) = false := decide_eq_false (by omega)
        have u4b : decide (k < xs.length) = false := decide_eq_false hlt
        clear hlt
        go_wp2
        go_ret
        exact ⟨rfl, B.out⟩
set_option maxHeartbeats 1000000 in
theorem ContainsFunc_calls (A : Option Addr) (cap : Nat) (xs : List Int) (hx : ∀ x ∈ xs, x = 0) (hm : xs.length ≤ 100) (w : World) (hC : (Kd.int .u8).C w A xs.length xs) :
    Calls Tryd.prog 15 #[.slice A xs.length cap, .func (.func 16) #[] #[]] w fun e w' => e = .returned (.bool false) ∧ Below w.heap.size w w' := by
  have IC := Aside0.mk (IndexFunc_calls A cap xs hx hm w hC)
  clear hC hx hm
  go_enter Tryd.func15, Tryd.ntmps15
  go_wp2_with fail
  (with_reducible refine IC.out.mono ?_)
  rintro e W1 ⟨rfl, hb⟩
  have B := Aside0.mk hb
  clear hb
  go_wp2
  go_ret
  exact ⟨rfl, B.out⟩
set_option maxHeartbeats 2000000 in
set_option maxRecDepth 100000 in
theorem sz5 : (Tryd.prog.info? 5).map (·.size) = some 1 := by kernel_rfl
abbrev set12 (w : World) (g : Nat) (v0 v1 v2 v3 v4 v5 v6 v7 v8 v9 v10 v11 : Value) : World := (((((((((((w.setCell ⟨g, 0, none⟩ v0).setCell ⟨g, 1, none⟩ v1).setCell ⟨g, 2, none⟩ v2).setCell ⟨g, 3, none⟩ v3).setCell ⟨g, 4, none⟩ v4).setCell ⟨g, 5, none⟩ v5).setCell ⟨g, 6, none⟩ v6).setCell ⟨g, 7, none⟩ v7).setCell ⟨g, 8, none⟩ v8).setCell ⟨g, 9, none⟩ v9).setCell ⟨g, 10, none⟩ v10).setCell ⟨g, 11, none⟩ v11
theorem set12_blk {w : World} {g t : Nat} {y0 y1 y2 y3 y4 y5 y6 y7 y8 y9 y10 y11 : Value} (v0 v1 v2 v3 v4 v5 v6 v7 v8 v9 v10 v11 : Value) (h : w.heap[g]? = some (.cells #[y0, y1, y2, y3, y4, y5, y6, y7, y8, y9, y10, y11] t (0, 0))) :
    (set12 w g v0 v1 v2 v3 v4 v5 v6 v7 v8 v9 v10 v11).heap[g]? = some (.cells #[v0, v1, v2, v3, v4, v5, v6, v7, v8, v9, v10, v11] t (0, 0)) := by
  have h0 := blk_put (cs' := #[v0, y1, y2, y3, y4, y5, y6, y7, y8, y9, y10, y11]) h 0 v0 rfl
  have h1 := blk_put (cs' := #[v0, v1, y2, y3, y4, y5, y6, y7, y8, y9, y10, y11]) h0 1 v1 rfl
  have h2 := blk_put (cs' := #[v0, v1, v2, y3, y4, y5, y6, y7, y8, y9, y10, y11]) h1 2 v2 rfl
  have h3 := blk_put (cs' := #[v0, v1, v2, v3, y4, y5, y6, y7, y8, y9, y10, y11]) h2 3 v3 rfl
  have h4 := blk_put (cs' := #[v0, v1, v2, v3, v4, y5, y6, y7, y8, y9, y10, y11]) h3 4 v4 rfl
  have h5 := blk_put (cs' := #[v0, v1, v2, v3, v4, v5, y6, y7, y8, y9, y10, y11]) h4 5 v5 rfl
  have h6 := blk_put (cs' := #[v0, v1, v2, v3, v4, v5, v6, y7, y8, y9, y10, y11]) h5 6 v6 rfl
  have h7 := blk_put (cs' := #[v0, v1, v2, v3, v4, v5, v6, v7, y8, y9, y10, y11]) h6 7 v7 rfl
  have h8 := blk_put (cs' := #[v0, v1, v2, v3, v4, v5, v6, v7, v8, y9, y10, y11]) h7 8 v8 rfl
  have h9 := blk_put (cs' := #[v0, v1, v2, v3, v4, v5, v6, v7, v8, v9, y10, y11]) h8 9 v9 rfl
  have h10 := blk_put (cs' := #[v0, v1, v2, v3, v4, v5, v6, v7, v8, v9, v10, y11]) h9 10 v10 rfl
  have h11 := blk_put (cs' := #[v0, v1, v2, v3, v4, v5, v6, v7, v8, v9, v10, v11]) h10 11 v11 rfl
  exact h11
theorem set12_below {B : Nat} {w0 w : World} {g : Nat} (v0 v1 v2 v3 v4 v5 v6 v7 v8 v9 v10 v11 : Value) (h : Below B w0 w) (hg : B ≤ g) : Below B w0 (set12 w g v0 v1 v2 v3 v4 v5 v6 v7 v8 v9 v10 v11) :=
  (((((((((((h.setCell (p := ⟨g, 0, none⟩) hg v0).setCell (p := ⟨g, 1, none⟩) hg v1).setCell (p := ⟨g, 2, none⟩) hg v2).setCell (p := ⟨g, 3, none⟩) hg v3).setCell (p := ⟨g, 4, none⟩) hg v4).setCell (p := ⟨g, 5, none⟩) hg v5).setCell (p := ⟨g, 6, none⟩) hg v6).setCell (p := ⟨g, 7, none⟩) hg v7).setCell (p := ⟨g, 8, none⟩) hg v8).setCell (p := ⟨g, 9, none⟩) hg v9).setCell (p := ⟨g, 10, none⟩) hg v10).setCell (p := ⟨g, 11, none⟩) hg v11
theorem cells12 {w : World} {g t : Nat} {y0 y1 y2 y3 y4 y5 y6 y7 y8 y9 y10 y11 : Value} (h : w.heap[g]? = some (.cells #[y0, y1, y2, y3, y4, y5, y6, y7, y8, y9, y10, y11] t (0, 0))) :
    w.cell? ⟨g, 0, none⟩ = some y0 ∧ w.cell? ⟨g, 1, none⟩ = some y1 ∧ w.cell? ⟨g, 2, none⟩ = some y2 ∧ w.cell? ⟨g, 3, none⟩ = some y3 ∧ w.cell? ⟨g, 4, none⟩ = some y4 ∧ w.cell? ⟨g, 5, none⟩ = some y5 ∧ w.cell? ⟨g, 6, none⟩ = some y6 ∧ w.cell? ⟨g, 7, none⟩ = some y7 ∧ w.cell? ⟨g, 8, none⟩ = some y8 ∧ w.cell? ⟨g, 9, none⟩ = some y9 ∧ w.cell? ⟨g, 10, none⟩ = some y10 ∧ w.cell? ⟨g, 11, none⟩ = some y11 :=
  ⟨(blk_cell h 0).trans rfl, (blk_cell h 1).trans rfl, (blk_cell h 2).trans rfl, (blk_cell h 3).trans rfl, (blk_cell h 4).trans rfl, (blk_cell h 5).trans rfl, (blk_cell h 6).trans rfl, (blk_cell h 7).trans rfl, (blk_cell h 8).trans rfl, (blk_cell h 9).trans rfl, (blk_cell h 10).trans rfl, (blk_cell h 11).trans rfl⟩
theorem frozen12 {w : World} {g t : Nat} {cs : Array Value} (h : w.heap[g]? = some (.cells cs t (0, 0))) :
    w.frozen? ⟨g, 0, none⟩ = false ∧ w.frozen? ⟨g, 1, none⟩ = false ∧ w.frozen? ⟨g, 2, none⟩ = false ∧ w.frozen? ⟨g, 3, none⟩ = false ∧ w.frozen? ⟨g, 4, none⟩ = false ∧ w.frozen? ⟨g, 5, none⟩ = false ∧ w.frozen? ⟨g, 6, none⟩ = false ∧ w.frozen? ⟨g, 7, none⟩ = false ∧ w.frozen? ⟨g, 8, none⟩ = false ∧ w.frozen? ⟨g, 9, none⟩ = false ∧ w.frozen? ⟨g, 10, none⟩ = false ∧ w.frozen? ⟨g, 11, none⟩ = false :=
  ⟨blk_frozen h 0, blk_frozen h 1, blk_frozen h 2, blk_frozen h 3, blk_frozen h 4, blk_frozen h 5, blk_frozen h 6, blk_frozen h 7, blk_frozen h 8, blk_frozen h 9, blk_frozen h 10, blk_frozen h 11⟩
theorem wcells4 {w : World} {g t : Nat} {y0 y1 y2 y3 : Value} (h : w.heap[g]? = some (.cells #[y0, y1, y2, y3] t (0, 0))) :
    w.cell? ⟨g, 0, none⟩ = some y0 ∧ w.cell? ⟨g, 1, none⟩ = some y1 ∧ w.cell? ⟨g, 2, none⟩ = some y2 ∧ w.cell? ⟨g, 3, none⟩ = some y3 :=
  ⟨(blk_cell h 0).trans rfl, (blk_cell h 1).trans rfl, (blk_cell h 2).trans rfl, (blk_cell h 3).trans rfl⟩
theorem src_of {W : World} {gs : Nat} {xs : List Int} (hc : ∀ j, j < xs.length → W.cell? ⟨gs, 0 + j, none⟩ = some (.int .u8 (xs[j]?.getD 0))) : ∀ j v, (xs.map (fun x => Value.int .u8 x))[j]? = some v → W.cell? ((⟨gs, 0, none⟩ : Addr).add j) = some v := fun j v hj => by
  rw [List.getElem?_map] at hj
  obtain ⟨x, hx, rfl⟩ := Option.map_eq_some_iff.1 hj
  have hlt := (List.getElem?_eq_some_iff.1 hx).1
  have e : (⟨gs, 0, none⟩ : Addr).add j = ⟨gs, 0 + j, none⟩ := by
    unfold Addr.add
    split
    · next hz => rw [hz]
    · next hz => rfl
  rw [e, hc j hlt, hx]
  rfl
theorem one_of (xs : List Int) : ∀ v ∈ xs.map (fun x => Value.int .u8 x), v.oneCell' = true := fun v hv => by
  obtain ⟨x, _, rfl⟩ := List.mem_map.1 hv
  rfl
theorem len_list {α : Type} : ∀ {l : List α}, l.length = 2 → ∃ a b, l = [a, b]
  | [a, b], _ => ⟨a, b, rfl⟩
theorem len6 {α : Type} : ∀ {l : List α}, l.length = 6 → ∃ a b c d e f, l = [a, b, c, d, e, f]
  | [a, b, c, d, e, f], _ => ⟨a, b, c, d, e, f, rfl⟩
