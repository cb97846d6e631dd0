/- Frames of words, and what is wrong with a frame, by the program. Conditions: those that each lemma names. -/
import Derived.Test.YtgnkmpgnlpjglaaTopSlave
import Derived.Laws.CopyOwn
namespace Go.Proofs.Ytgnkmpgnlpjglaa.P
open Go.RowKit Go.Proofs.YtgnkmpgnlpjglaaW.PrintWords Go.Proofs.YtgnkmpgnlpjglaaW.PrintLast Go.Proofs.YtgnkmpgnlpjglaaW.PrintMore Go.Shelf
set_option linter.unusedVariables false
set_option linter.unusedSimpArgs false
theorem C_blk {W : World} {g t : Nat} {cs : Array Value} (h : W.heap[g]? = some (.cells cs t (0, 0))) (off n : Nat) (xs : List Int) (hn : xs.length = n) (hm : n ≤ 100) (hx : ∀ j x, xs[j]? = some x → cs[off + j]? = some (.int .u8 x)) : (Kd.int .u8).C W (some ⟨g, off, none⟩) n xs := by
  refine ⟨hn, by omega, fun _ => ⟨⟨g, off, none⟩, rfl, fun j p hj => ⟨[.int .u8 p], rfl, rfl, fun i u hi => ?_⟩⟩⟩
  match i, hi with
  | 0, hi =>
    have e : u = .int .u8 p := by simpa using hi.symm
    subst e
    have ea : (⟨g, off, none⟩ : Addr).add (j * (Kd.int .u8).sz + 0) = ⟨g, off + j, none⟩ := by
      show (⟨g, off, none⟩ : Addr).add (j * 1 + 0) = _
      unfold Addr.add
      split
      · next hz => rw [show j = 0 by omega]; rfl
      · next hz => simp
    rw [ea, blk_cell h (off + j)]
    exact hx j p hj
  | i + 1, hi => simp at hi
set_option maxHeartbeats 1000000 in
theorem nonzero_calls (w : World) : Calls Try.prog 87 #[.int .u8 0] w fun e w' => e = .returned (.bool false) ∧ Below w.heap.size w w' := by
  have B := Aside0.mk (Below.refl w.heap.size w)
  go_enter Try.func87, Try.ntmps87
  go_wp2
  go_ret
  exact ⟨rfl, B.out⟩
set_option maxHeartbeats 2000000 in
set_option maxRecDepth 100000 in
theorem IndexFunc_calls (A : Option Addr) (cap : Nat) (xs : List Int) (hx : ∀ x ∈ xs, x = 0) (hm : xs.length ≤ 100) (w : World) (hC : (Kd.int .u8).C w A xs.length xs) :
    Calls Try.prog 90 #[.slice A xs.length cap, .func (.func 87) #[] #[]] w fun e w' => e = .returned (.int .i64 (-1)) ∧ Below w.heap.size w w' := by
  have HC := Aside0.mk hC
  have HX := Aside0.mk hx
  have HM := Aside0.mk hm
  clear hC hx hm
  go_enter Try.func90, Try.ntmps90
  go_wp2
  go_loopg [8] (xs.length + 1) (fun kq v8 w' => ∃ (k : Nat), v8 = .int .i64 (k : Int) ∧ Aside0 (k ≤ xs.length ∧ xs.length < k + kq) ∧ Aside0 (Below w.heap.size w w'))
  case atStart => exact ⟨0, rfl, ⟨by omega⟩, ⟨Below.refl _ _⟩⟩
  case round =>
    obtain ⟨k, rfl, HK, B⟩ := hrel
    cases gk with
    | zero => exact absurd HK.out (by omega)
    | succ k1 =>
      by_cases hlt : k < xs.length
      · have u4 : decide ((k : Int) < (xs.length : Int)) = true := decide_eq_true (by omega)
        have u4b : decide (k < xs.length) = true := decide_eq_true hlt
        have p1 : (0 ≤ (k : Int)) = True := eq_true (by omega)
        have q1 : ((k : Int) < (xs.length : Int)) = True := eq_true (by omega)
        obtain ⟨ad, ea, y0⟩ := Kd.at_int (Kd.C_below HC.out B.out) (k : Int) (by omega) (by omega)
        cases ea
        have k1' : wrap64 ((k : Int) + 1) = ((k + 1 : Nat) : Int) := by rw [i64w _ (by omega) (by have := HM.out; omega)]; rfl
        have ex : rd xs (k : Int) = 0 := by
          have : rd xs (k : Int) = xs[k] := by simp [rd, hlt]
          rw [this]
          exact HX.out _ (List.getElem_mem hlt)
        rw [ex] at y0
        simp only [Int.toNat_natCast] at y0
        have KL := Aside0.mk hlt
        clear ex hlt
        go_wp2_with fail
        (with_reducible refine (nonzero_calls _).mono ?_)
        rintro e W1 ⟨rfl, hb⟩
        have nB := Aside0.mk (below_step B.out hb)
        clear hb B y0
        go_wp2
        go_roundg k1
        case rel => exact ⟨k + 1, by first | rfl | rw [k1'], ⟨by have := HK.out; have := KL.out; omega⟩, nB⟩
        case measure => omega
      · have u4 : decide ((k : Int) < (xs.length : Int)) = false := decide_eq_false (by omega)
        have u4b : decide (k < xs.length) = false := decide_eq_false hlt
        clear hlt
        go_wp2
        go_ret
        exact ⟨rfl, B.out⟩
set_option maxHeartbeats 1000000 in
theorem ContainsFunc_calls (A : Option Addr) (cap : Nat) (xs : List Int) (hx : ∀ x ∈ xs, x = 0) (hm : xs.length ≤ 100) (w : World) (hC : (Kd.int .u8).C w A xs.length xs) :
    Calls Try.prog 86 #[.slice A xs.length cap, .func (.func 87) #[] #[]] w fun e w' => e = .returned (.bool false) ∧ Below w.heap.size w w' := by
  have IC := Aside0.mk (IndexFunc_calls A cap xs hx hm w hC)
  clear hC hx hm
  go_enter Try.func86, Try.ntmps86
  go_wp2_with fail
  (with_reducible refine IC.out.mono ?_)
  rintro e W1 ⟨rfl, hb⟩
  have B := Aside0.mk hb
  clear hb
  go_wp2
  go_ret
  exact ⟨rfl, B.out⟩
set_option maxHeartbeats 2000000 in
set_option maxRecDepth 100000 in
theorem fRight2 (N d0 d1 : Int) (n0 : 0 ≤ N) (n1 : N < 2048) (w : World) : Calls Try.prog 65 #[.agg #[.bool false, .int .u32 N, .bool false, .int .i64 2, .int .u8 d0, .int .u8 d1, .int .u8 0, .int .u8 0, .int .u8 0, .int .u8 0, .int .u8 0, .int .u8 0]] w fun e w' => e = .returned (.int .i64 0) ∧ Below w.heap.size w w' := by
  have hu64 := Try.underlying64
  have hu65 := Try.underlying65
  have hu67 := Try.underlying67
  have IR := Aside0.mk (fun w => ident_Right.calls false N true w (by unfold ident_Right.f; rw [if_neg (by decide)]; congr 1; rw [beq_iff_eq]; omega))
  clear n0 n1
  have KB := Aside0.mk (blk_new w (.cells #[.bool false, .int .u32 N, .bool false, .int .i64 2, .int .u8 d0, .int .u8 d1, .int .u8 0, .int .u8 0, .int .u8 0, .int .u8 0, .int .u8 0, .int .u8 0] 67))
  have B := Aside0.mk (below_alloc (Below.refl w.heap.size w) (.cells #[.bool false, .int .u32 N, .bool false, .int .i64 2, .int .u8 d0, .int .u8 d1, .int .u8 0, .int .u8 0, .int .u8 0, .int .u8 0, .int .u8 0, .int .u8 0] 67))
  have c0 := (blk_cell KB.out 0).trans rfl
  have c1 := (blk_cell KB.out 1).trans rfl
  have c2 := (blk_cell KB.out 2).trans rfl
  have c3 := (blk_cell KB.out 3).trans rfl
  go_enter Try.func65, Try.ntmps65
  go_wp2_with fail
  (with_reducible refine (IR.out _).mono ?_)
  rintro e W1 ⟨rfl, hb⟩
  have nK := Aside0.mk (blk_below KB.out hb)
  have nB := Aside0.mk (below_step B.out hb)
  clear hb KB B c0 c1 c2 c3
  have c0 := (blk_cell nK.out 0).trans rfl
  have c1 := (blk_cell nK.out 1).trans rfl
  have c2 := (blk_cell nK.out 2).trans rfl
  have c3 := (blk_cell nK.out 3).trans rfl
  have CF := Aside0.mk (fun cap => ContainsFunc_calls (some ⟨w.heap.size, 6, none⟩) cap (List.replicate 6 0) (fun x hx => (List.mem_replicate.1 hx).2) (by decide) W1 (C_blk nK.out 6 6 (List.replicate 6 0) rfl (by decide) (fun j x hj => by
    obtain ⟨hlt, rfl⟩ := List.getElem?_eq_some_iff.1 hj
    simp only [List.length_replicate] at hlt
    rw [List.getElem_replicate]
    match j, hlt with
    | 0, _ => rfl
    | 1, _ => rfl
    | 2, _ => rfl
    | 3, _ => rfl
    | 4, _ => rfl
    | 5, _ => rfl)))
  have CF : Aside0 (∀ cap, Calls Try.prog 86 #[.slice (some ⟨w.heap.size, 6, none⟩) 6 cap, .func (.func 87) #[] #[]] W1 fun e w' => e = .returned (.bool false) ∧ Below W1.heap.size W1 w') := ⟨CF.out⟩
  go_wp2_with fail
  (with_reducible refine (CF.out _).mono ?_)
  rintro e W2 ⟨rfl, hb⟩
  have B := Aside0.mk (below_step nB.out hb)
  clear hb c0 c1 c2 c3
  go_wp2
  go_ret
  exact ⟨rfl, B.out⟩
set_option maxHeartbeats 2000000 in
set_option maxRecDepth 100000 in
theorem fRight8 (N d0 d1 d2 d3 d4 d5 d6 d7 : Int) (n0 : 0 ≤ N) (n1 : N < 2048) (w : World) : Calls Try.prog 65 #[.agg #[.bool false, .int .u32 N, .bool false, .int .i64 8, .int .u8 d0, .int .u8 d1, .int .u8 d2, .int .u8 d3, .int .u8 d4, .int .u8 d5, .int .u8 d6, .int .u8 d7]] w fun e w' => e = .returned (.int .i64 0) ∧ Below w.heap.size w w' := by
  have hu64 := Try.underlying64
  have hu65 := Try.underlying65
  have hu67 := Try.underlying67
  have IR := Aside0.mk (fun w => ident_Right.calls false N true w (by unfold ident_Right.f; rw [if_neg (by decide)]; congr 1; rw [beq_iff_eq]; omega))
  clear n0 n1
  have KB := Aside0.mk (blk_new w (.cells #[.bool false, .int .u32 N, .bool false, .int .i64 8, .int .u8 d0, .int .u8 d1, .int .u8 d2, .int .u8 d3, .int .u8 d4, .int .u8 d5, .int .u8 d6, .int .u8 d7] 67))
  have B := Aside0.mk (below_alloc (Below.refl w.heap.size w) (.cells #[.bool false, .int .u32 N, .bool false, .int .i64 8, .int .u8 d0, .int .u8 d1, .int .u8 d2, .int .u8 d3, .int .u8 d4, .int .u8 d5, .int .u8 d6, .int .u8 d7] 67))
  have c0 := (blk_cell KB.out 0).trans rfl
  have c1 := (blk_cell KB.out 1).trans rfl
  have c2 := (blk_cell KB.out 2).trans rfl
  have c3 := (blk_cell KB.out 3).trans rfl
  go_enter Try.func65, Try.ntmps65
  go_wp2_with fail
  (with_reducible refine (IR.out _).mono ?_)
  rintro e W1 ⟨rfl, hb⟩
  have nK := Aside0.mk (blk_below KB.out hb)
  have nB := Aside0.mk (below_step B.out hb)
  clear hb KB B c0 c1 c2 c3
  have c0 := (blk_cell nK.out 0).trans rfl
  have c1 := (blk_cell nK.out 1).trans rfl
  have c2 := (blk_cell nK.out 2).trans rfl
  have c3 := (blk_cell nK.out 3).trans rfl
  have CF := Aside0.mk (fun cap => ContainsFunc_calls (some ⟨w.heap.size, 4, none⟩) cap (List.replicate 0 0) (fun x hx => (List.mem_replicate.1 hx).2) (by decide) W1 (C_blk nK.out 4 0 (List.replicate 0 0) rfl (by decide) (fun j x hj => by
    obtain ⟨hlt, rfl⟩ := List.getElem?_eq_some_iff.1 hj
    simp only [List.length_replicate] at hlt
    rw [List.getElem_replicate]
    match j, hlt with
    | j, h => exact absurd h (by omega))))
  have CF : Aside0 (∀ cap, Calls Try.prog 86 #[.slice (some ⟨w.heap.size, 4, none⟩) 0 cap, .func (.func 87) #[] #[]] W1 fun e w' => e = .returned (.bool false) ∧ Below W1.heap.size W1 w') := ⟨CF.out⟩
  go_wp2_with fail
  (with_reducible refine (CF.out _).mono ?_)
  rintro e W2 ⟨rfl, hb⟩
  have B := Aside0.mk (below_step nB.out hb)
  clear hb c0 c1 c2 c3
  go_wp2
  go_ret
  exact ⟨rfl, B.out⟩
theorem sz5 : (Try.prog.info? 5).map (·.size) = some 1 := by kernel_rfl
abbrev set12 (w : World) (g : Nat) (v0 v1 v2 v3 v4 v5 v6 v7 v8 v9 v10 v11 : Value) : World := (((((((((((w.setCell ⟨g, 0, none⟩ v0).setCell ⟨g, 1, none⟩ v1).setCell ⟨g, 2, none⟩ v2).setCell ⟨g, 3, none⟩ v3).setCell ⟨g, 4, none⟩ v4).setCell ⟨g, 5, none⟩ v5).setCell ⟨g, 6, none⟩ v6).setCell ⟨g, 7, none⟩ v7).setCell ⟨g, 8, none⟩ v8).setCell ⟨g, 9, none⟩ v9).setCell ⟨g, 10, none⟩ v10).setCell ⟨g, 11, none⟩ v11
theorem set12_blk {w : World} {g t : Nat} {y0 y1 y2 y3 y4 y5 y6 y7 y8 y9 y10 y11 : Value} (v0 v1 v2 v3 v4 v5 v6 v7 v8 v9 v10 v11 : Value) (h : w.heap[g]? = some (.cells #[y0, y1, y2, y3, y4, y5, y6, y7, y8, y9, y10, y11] t (0, 0))) :
    (set12 w g v0 v1 v2 v3 v4 v5 v6 v7 v8 v9 v10 v11).heap[g]? = some (.cells #[v0, v1, v2, v3, v4, v5, v6, v7, v8, v9, v10, v11] t (0, 0)) := by
  have h0 := blk_put (cs' := #[v0, y1, y2, y3, y4, y5, y6, y7, y8, y9, y10, y11]) h 0 v0 rfl
  have h1 := blk_put (cs' := #[v0, v1, y2, y3, y4, y5, y6, y7, y8, y9, y10, y11]) h0 1 v1 rfl
  have h2 := blk_put (cs' := #[v0, v1, v2, y3, y4, y5, y6, y7, y8, y9, y10, y11]) h1 2 v2 rfl
  have h3 := blk_put (cs' := #[v0, v1, v2, v3, y4, y5, y6, y7, y8, y9, y10, y11]) h2 3 v3 rfl
  have h4 := blk_put (cs' := #[v0, v1, v2, v3, v4, y5, y6, y7, y8, y9, y10, y11]) h3 4 v4 rfl
  have h5 := blk_put (cs' := #[v0, v1, v2, v3, v4, v5, y6, y7, y8, y9, y10, y11]) h4 5 v5 rfl
  have h6 := blk_put (cs' := #[v0, v1, v2, v3, v4, v5, v6, y7, y8, y9, y10, y11]) h5 6 v6 rfl
  have h7 := blk_put (cs' := #[v0, v1, v2, v3, v4, v5, v6, v7, y8, y9, y10, y11]) h6 7 v7 rfl
  have h8 := blk_put (cs' := #[v0, v1, v2, v3, v4, v5, v6, v7, v8, y9, y10, y11]) h7 8 v8 rfl
  have h9 := blk_put (cs' := #[v0, v1, v2, v3, v4, v5, v6, v7, v8, v9, y10, y11]) h8 9 v9 rfl
  have h10 := blk_put (cs' := #[v0, v1, v2, v3, v4, v5, v6, v7, v8, v9, v10, y11]) h9 10 v10 rfl
  have h11 := blk_put (cs' := #[v0, v1, v2, v3, v4, v5, v6, v7, v8, v9, v10, v11]) h10 11 v11 rfl
  exact h11
theorem set12_below {B : Nat} {w0 w : World} {g : Nat} (v0 v1 v2 v3 v4 v5 v6 v7 v8 v9 v10 v11 : Value) (h : Below B w0 w) (hg : B ≤ g) : Below B w0 (set12 w g v0 v1 v2 v3 v4 v5 v6 v7 v8 v9 v10 v11) :=
  (((((((((((h.setCell (p := ⟨g, 0, none⟩) hg v0).setCell (p := ⟨g, 1, none⟩) hg v1).setCell (p := ⟨g, 2, none⟩) hg v2).setCell (p := ⟨g, 3, none⟩) hg v3).setCell (p := ⟨g, 4, none⟩) hg v4).setCell (p := ⟨g, 5, none⟩) hg v5).setCell (p := ⟨g, 6, none⟩) hg v6).setCell (p := ⟨g, 7, none⟩) hg v7).setCell (p := ⟨g, 8, none⟩) hg v8).setCell (p := ⟨g, 9, none⟩) hg v9).setCell (p := ⟨g, 10, none⟩) hg v10).setCell (p := ⟨g, 11, none⟩) hg v11
theorem cells12 {w : World} {g t : Nat} {y0 y1 y2 y3 y4 y5 y6 y7 y8 y9 y10 y11 : Value} (h : w.heap[g]? = some (.cells #[y0, y1, y2, y3, y4, y5, y6, y7, y8, y9, y10, y11] t (0, 0))) :
    w.cell? ⟨g, 0, none⟩ = some y0 ∧ w.cell? ⟨g, 1, none⟩ = some y1 ∧ w.cell? ⟨g, 2, none⟩ = some y2 ∧ w.cell? ⟨g, 3, none⟩ = some y3 ∧ w.cell? ⟨g, 4, none⟩ = some y4 ∧ w.cell? ⟨g, 5, none⟩ = some y5 ∧ w.cell? ⟨g, 6, none⟩ = some y6 ∧ w.cell? ⟨g, 7, none⟩ = some y7 ∧ w.cell? ⟨g, 8, none⟩ = some y8 ∧ w.cell? ⟨g, 9, none⟩ = some y9 ∧ w.cell? ⟨g, 10, none⟩ = some y10 ∧ w.cell? ⟨g, 11, none⟩ = some y11 :=
  ⟨(blk_cell h 0).trans rfl, (blk_cell h 1).trans rfl, (blk_cell h 2).trans rfl, (blk_cell h 3).trans rfl, (blk_cell h 4).trans rfl, (blk_cell h 5).trans rfl, (blk_cell h 6).trans rfl, (blk_cell h 7).trans rfl, (blk_cell h 8).trans rfl, (blk_cell h 9).trans rfl, (blk_cell h 10).trans rfl, (blk_cell h 11).trans rfl⟩
theorem frozen12 {w : World} {g t : Nat} {cs : Array Value} (h : w.heap[g]? = some (.cells cs t (0, 0))) :
    w.frozen? ⟨g, 0, none⟩ = false ∧ w.frozen? ⟨g, 1, none⟩ = false ∧ w.frozen? ⟨g, 2, none⟩ = false ∧ w.frozen? ⟨g, 3, none⟩ = false ∧ w.frozen? ⟨g, 4, none⟩ = false ∧ w.frozen? ⟨g, 5, none⟩ = false ∧ w.frozen? ⟨g, 6, none⟩ = false ∧ w.frozen? ⟨g, 7, none⟩ = false ∧ w.frozen? ⟨g, 8, none⟩ = false ∧ w.frozen? ⟨g, 9, none⟩ = false ∧ w.frozen? ⟨g, 10, none⟩ = false ∧ w.frozen? ⟨g, 11, none⟩ = false :=
  ⟨blk_frozen h 0, blk_frozen h 1, blk_frozen h 2, blk_frozen h 3, blk_frozen h 4, blk_frozen h 5, blk_frozen h 6, blk_frozen h 7, blk_frozen h 8, blk_frozen h 9, blk_frozen h 10, blk_frozen h 11⟩
theorem wcells4 {w : World} {g t : Nat} {y0 y1 y2 y3 : Value} (h : w.heap[g]? = some (.cells #[y0, y1, y2, y3] t (0, 0))) :
    w.cell? ⟨g, 0, none⟩ = some y0 ∧ w.cell? ⟨g, 1, none⟩ = some y1 ∧ w.cell? ⟨g, 2, none⟩ = some y2 ∧ w.cell? ⟨g, 3, none⟩ = some y3 :=
  ⟨(blk_cell h 0).trans rfl, (blk_cell h 1).trans rfl, (blk_cell h 2).trans rfl, (blk_cell h 3).trans rfl⟩
theorem sRight0 (rd : Int) (r0 : 0 ≤ rd) (r1 : rd < 65536) : slave_Right.f 2 false 1 rd 0 = some true := by
  unfold slave_Right.f slave_below_int.f
  rw [if_pos (by decide)]
  simp only [Option.bind_some]
  rw [if_pos (by decide), if_pos (by omega)]
  simp only [Option.bind_some, decide_eq_true r1, slave_Right.j0, slave_below_int64.f]
  decide
theorem sRight1 (rd tm : Int) (r0 : 0 ≤ rd) (r1 : rd < 65536) (t0 : 0 ≤ tm) (t1 : tm < 281474976710656) : slave_Right.f 2 true 1 rd tm = some true := by
  unfold slave_Right.f slave_below_int.f
  rw [if_pos (by decide)]
  simp only [Option.bind_some]
  rw [if_pos (by decide), if_pos (by omega)]
  simp [slave_Right.j0, slave_below_int64.f, r1, t0, t1]
theorem src_of {W : World} {gs : Nat} {xs : List Int} (hc : ∀ j, j < xs.length → W.cell? ⟨gs, 0 + j, none⟩ = some (.int .u8 (xs[j]?.getD 0))) : ∀ j v, (xs.map (fun x => Value.int .u8 x))[j]? = some v → W.cell? ((⟨gs, 0, none⟩ : Addr).add j) = some v := fun j v hj => by
  rw [List.getElem?_map] at hj
  obtain ⟨x, hx, rfl⟩ := Option.map_eq_some_iff.1 hj
  have hlt := (List.getElem?_eq_some_iff.1 hx).1
  have e : (⟨gs, 0, none⟩ : Addr).add j = ⟨gs, 0 + j, none⟩ := by
    unfold Addr.add
    split
    · next hz => rw [hz]
    · next hz => rfl
  rw [e, hc j hlt, hx]
  rfl
theorem one_of (xs : List Int) : ∀ v ∈ xs.map (fun x => Value.int .u8 x), v.oneCell' = true := fun v hv => by
  obtain ⟨x, _, rfl⟩ := List.mem_map.1 hv
  rfl
theorem len_list {α : Type} : ∀ {l : List α}, l.length = 2 → ∃ a b, l = [a, b]
  | [a, b], _ => ⟨a, b, rfl⟩
theorem len6 {α : Type} : ∀ {l : List α}, l.length = 6 → ∃ a b c d e f, l = [a, b, c, d, e, f]
  | [a, b, c, d, e, f], _ => ⟨a, b, c, d, e, f, rfl⟩
set_option maxHeartbeats 4000000 in
set_option maxRecDepth 100000 in
theorem Frame2 (rd : Int) (r0 : 0 ≤ rd) (r1 : rd < 65536) (d0 d1 : Int) (h2 : byteL rd 2 = [d0, d1]) (w : World) : Calls Try.prog 26 #[.agg #[.bool false, .int .i64 1, .int .i64 rd, .int .i64 0]] w fun e w' => e = .returned (.tuple #[.agg #[.bool false, .int .u32 1, .bool false, .int .i64 2, .int .u8 d0, .int .u8 d1, .int .u8 0, .int .u8 0, .int .u8 0, .int .u8 0, .int .u8 0, .int .u8 0], .int .i64 0]) ∧ Below w.heap.size w w' := by
  have hu64 := Try.underlying64
  have hu65 := Try.underlying65
  have hu67 := Try.underlying67
  have hu71 := Try.underlying71
  have SR := Aside0.mk (fun w => slave_Right.calls 2 false 1 rd 0 true w (sRight0 rd r0 r1))
  have HI := high61 rd r0 (by omega)
  rw [h2] at HI
  have HI := Aside0.mk HI
  clear r0 r1 h2
  have KW := Aside0.mk (blk_alloc (blk_new w (.cells #[.bool false, .int .i64 1, .int .i64 rd, .int .i64 0] 71)) (.cells #[.bool false, .int .u32 0, .bool false, .int .i64 0, .int .u8 0, .int .u8 0, .int .u8 0, .int .u8 0, .int .u8 0, .int .u8 0, .int .u8 0, .int .u8 0] 67))
  have KR := Aside0.mk (blk_new (w.alloc (.cells #[.bool false, .int .i64 1, .int .i64 rd, .int .i64 0] 71)) (.cells #[.bool false, .int .u32 0, .bool false, .int .i64 0, .int .u8 0, .int .u8 0, .int .u8 0, .int .u8 0, .int .u8 0, .int .u8 0, .int .u8 0, .int .u8 0] 67))
  have B := Aside0.mk (below_alloc (below_alloc (Below.refl w.heap.size w) (.cells #[.bool false, .int .i64 1, .int .i64 rd, .int .i64 0] 71)) (.cells #[.bool false, .int .u32 0, .bool false, .int .i64 0, .int .u8 0, .int .u8 0, .int .u8 0, .int .u8 0, .int .u8 0, .int .u8 0, .int .u8 0, .int .u8 0] 67))
  have hsz : (w.alloc (.cells #[.bool false, .int .i64 1, .int .i64 rd, .int .i64 0] 71)).heap.size = w.heap.size + 1 := by simp
  rw [hsz] at KR
  clear hsz
  obtain ⟨c0, c1, c2, c3⟩ := wcells4 KW.out
  go_enter Try.func26, Try.ntmps26
  go_wp2_with fail
  (with_reducible refine (SR.out _).mono ?_)
  rintro e W1 ⟨rfl, hb⟩
  have nW := Aside0.mk (blk_alloc (blk_below KW.out hb) (.cells #[.bool false, .int .u32 1, .bool false, .int .i64 0, .int .u8 0, .int .u8 0, .int .u8 0, .int .u8 0, .int .u8 0, .int .u8 0, .int .u8 0, .int .u8 0] 67))
  have nR := Aside0.mk (blk_alloc (blk_below KR.out hb) (.cells #[.bool false, .int .u32 1, .bool false, .int .i64 0, .int .u8 0, .int .u8 0, .int .u8 0, .int .u8 0, .int .u8 0, .int .u8 0, .int .u8 0, .int .u8 0] 67))
  have L1 : Aside0 (w.heap.size + 1 < W1.heap.size) := ⟨blk_lt (blk_below KR.out hb)⟩
  have KF := Aside0.mk (blk_new W1 (.cells #[.bool false, .int .u32 1, .bool false, .int .i64 0, .int .u8 0, .int .u8 0, .int .u8 0, .int .u8 0, .int .u8 0, .int .u8 0, .int .u8 0, .int .u8 0] 67))
  have nB := Aside0.mk (below_alloc (below_step B.out hb) (.cells #[.bool false, .int .u32 1, .bool false, .int .i64 0, .int .u8 0, .int .u8 0, .int .u8 0, .int .u8 0, .int .u8 0, .int .u8 0, .int .u8 0, .int .u8 0] 67))
  obtain ⟨c0, c1, c2, c3⟩ := wcells4 (blk_below KW.out hb)
  obtain ⟨e0, e1, e2, e3⟩ := wcells4 nW.out
  clear hb KW KR B
  go_wp2_with fail
  clear c0 c1 c2 c3 e0 e1 e2 e3
  (with_reducible refine (HI.out _).mono ?_)
  rintro e W2 ⟨v, rfl, hR, hb⟩
  have KW := Aside0.mk (blk_below nW.out hb)
  have KR := Aside0.mk (blk_below nR.out hb)
  have nF := Aside0.mk (blk_below KF.out hb)
  have B := Aside0.mk (below_step nB.out hb)
  have HR := Aside0.mk (Kd.R_lower hR nB.out.size)
  clear hb nW nR nB KF hR
  obtain ⟨c0, c1, c2, c3⟩ := wcells4 KW.out
  obtain ⟨gs, cap, rfl, hcap, hg, hc⟩ := R_bytes HR.out (by simp)
  have HS := Aside0.mk (src_of hc)
  clear hcap hg hc HR
  go_wp2_with (first | ((with_reducible refine gate_builtin (b := .copy) (xs := #[.tmp 32, .tmp 33]) rfl ?_); refine wpList_copy_splice rfl _ _ 32 32 rfl 5 Try.underlying32 sz5 _ _ 8 8 2 cap rfl rfl W1.heap.size 4 [.bool false, .int .u32 1, .bool false, .int .i64 0, .int .u8 0, .int .u8 0, .int .u8 0, .int .u8 0, .int .u8 0, .int .u8 0, .int .u8 0, .int .u8 0] 67 nF.out ([d0, d1].map (fun x => Value.int .u8 x)) rfl (fun _ => ⟨rfl, _, rfl, HS.out⟩) (by simp) (one_of _) W1.heap.size W2 (Below.refl _ _) (Nat.le_refl _) ?_; intro w3 hs hb3; have KF : Aside0 (w3.heap[W1.heap.size]? = some (.cells #[.bool false, .int .u32 1, .bool false, .int .i64 0, .int .u8 d0, .int .u8 d1, .int .u8 0, .int .u8 0, .int .u8 0, .int .u8 0, .int .u8 0, .int .u8 0] 67 (0, 0))) := ⟨hs⟩; have KR3 := Aside0.mk (((hb3.block _ L1.out)).trans KR.out); have B3 := Aside0.mk (B.out.trans (hb3.mono (by have := L1.out; omega))); clear hs hb3 KR B c0 c1 c2 c3 nF HS; have KR := KR3; have B := B3; clear KR3 B3; have f3 := blk_frozen KF.out 3; have g3 := (blk_cell KF.out 3).trans rfl; obtain ⟨x0, x1, x2, x3, x4, x5, x6, x7, x8, x9, x10, x11⟩ := cells12 (blk_put (cs' := #[.bool false, .int .u32 1, .bool false, .int .i64 2, .int .u8 d0, .int .u8 d1, .int .u8 0, .int .u8 0, .int .u8 0, .int .u8 0, .int .u8 0, .int .u8 0]) KF.out 3 (.int .i64 2) rfl); obtain ⟨y0, y1, y2, y3, y4, y5, y6, y7, y8, y9, y10, y11⟩ := frozen12 KR.out; have KX := Aside0.mk (blk_far KR.out (p := ⟨W1.heap.size, 3, none⟩) (by have := L1.out; simp; omega) (.int .i64 2)); obtain ⟨z0, z1, z2, z3, z4, z5, z6, z7, z8, z9, z10, z11⟩ := cells12 KX.out; have BX := Aside0.mk (B.out.setCell (p := ⟨W1.heap.size, 3, none⟩) (by have := L1.out; simp; omega) (.int .i64 2))))
  (try simp only [Exit.inBlock, Exit.then])
  refine bodyPost_ret (results_ct rfl _ _ (w.heap.size + 1) 67 #[.bool false, .int .u32 1, .bool false, .int .i64 2, .int .u8 d0, .int .u8 d1, .int .u8 0, .int .u8 0, .int .u8 0, .int .u8 0, .int .u8 0, .int .u8 0] (0, 0) _ rfl (set12_blk _ _ _ _ _ _ _ _ _ _ _ _ KX.out) Try.underlying67 rfl (by kernel_rfl)) rfl ?_
  exact ⟨rfl, set12_below _ _ _ _ _ _ _ _ _ _ _ _ BX.out (by omega)⟩
set_option maxHeartbeats 4000000 in
set_option maxRecDepth 100000 in
theorem Frame8 (rd tm : Int) (r0 : 0 ≤ rd) (r1 : rd < 65536) (t0 : 0 ≤ tm) (t1 : tm < 281474976710656) (d0 d1 d2 d3 d4 d5 d6 d7 : Int) (h2 : byteL rd 2 = [d0, d1]) (h6 : byteL tm 6 = [d2, d3, d4, d5, d6, d7]) (w : World) : Calls Try.prog 26 #[.agg #[.bool true, .int .i64 1, .int .i64 rd, .int .i64 tm]] w fun e w' => e = .returned (.tuple #[.agg #[.bool false, .int .u32 33, .bool false, .int .i64 8, .int .u8 d0, .int .u8 d1, .int .u8 d2, .int .u8 d3, .int .u8 d4, .int .u8 d5, .int .u8 d6, .int .u8 d7], .int .i64 0]) ∧ Below w.heap.size w w' := by
  have hu64 := Try.underlying64
  have hu65 := Try.underlying65
  have hu67 := Try.underlying67
  have hu71 := Try.underlying71
  have SR := Aside0.mk (fun w => slave_Right.calls 2 true 1 rd tm true w (sRight1 rd tm r0 r1 t0 t1))
  have HI := high61 rd r0 (by omega)
  rw [h2] at HI
  have HI := Aside0.mk HI
  have HT := high62 tm t0 (by omega)
  rw [h6] at HT
  have HT := Aside0.mk HT
  clear r0 r1 h2 t0 t1 h6
  have KW := Aside0.mk (blk_alloc (blk_new w (.cells #[.bool true, .int .i64 1, .int .i64 rd, .int .i64 tm] 71)) (.cells #[.bool false, .int .u32 0, .bool false, .int .i64 0, .int .u8 0, .int .u8 0, .int .u8 0, .int .u8 0, .int .u8 0, .int .u8 0, .int .u8 0, .int .u8 0] 67))
  have KR := Aside0.mk (blk_new (w.alloc (.cells #[.bool true, .int .i64 1, .int .i64 rd, .int .i64 tm] 71)) (.cells #[.bool false, .int .u32 0, .bool false, .int .i64 0, .int .u8 0, .int .u8 0, .int .u8 0, .int .u8 0, .int .u8 0, .int .u8 0, .int .u8 0, .int .u8 0] 67))
  have B := Aside0.mk (below_alloc (below_alloc (Below.refl w.heap.size w) (.cells #[.bool true, .int .i64 1, .int .i64 rd, .int .i64 tm] 71)) (.cells #[.bool false, .int .u32 0, .bool false, .int .i64 0, .int .u8 0, .int .u8 0, .int .u8 0, .int .u8 0, .int .u8 0, .int .u8 0, .int .u8 0, .int .u8 0] 67))
  have hsz : (w.alloc (.cells #[.bool true, .int .i64 1, .int .i64 rd, .int .i64 tm] 71)).heap.size = w.heap.size + 1 := by simp
  rw [hsz] at KR
  clear hsz
  obtain ⟨c0, c1, c2, c3⟩ := wcells4 KW.out
  go_enter Try.func26, Try.ntmps26
  go_wp2_with fail
  (with_reducible refine (SR.out _).mono ?_)
  rintro e W1 ⟨rfl, hb⟩
  have nW := Aside0.mk (blk_alloc (blk_below KW.out hb) (.cells #[.bool false, .int .u32 1, .bool false, .int .i64 0, .int .u8 0, .int .u8 0, .int .u8 0, .int .u8 0, .int .u8 0, .int .u8 0, .int .u8 0, .int .u8 0] 67))
  have nR := Aside0.mk (blk_alloc (blk_below KR.out hb) (.cells #[.bool false, .int .u32 1, .bool false, .int .i64 0, .int .u8 0, .int .u8 0, .int .u8 0, .int .u8 0, .int .u8 0, .int .u8 0, .int .u8 0, .int .u8 0] 67))
  have L1 : Aside0 (w.heap.size + 1 < W1.heap.size) := ⟨blk_lt (blk_below KR.out hb)⟩
  have KF := Aside0.mk (blk_new W1 (.cells #[.bool false, .int .u32 1, .bool false, .int .i64 0, .int .u8 0, .int .u8 0, .int .u8 0, .int .u8 0, .int .u8 0, .int .u8 0, .int .u8 0, .int .u8 0] 67))
  have nB := Aside0.mk (below_alloc (below_step B.out hb) (.cells #[.bool false, .int .u32 1, .bool false, .int .i64 0, .int .u8 0, .int .u8 0, .int .u8 0, .int .u8 0, .int .u8 0, .int .u8 0, .int .u8 0, .int .u8 0] 67))
  obtain ⟨c0, c1, c2, c3⟩ := wcells4 (blk_below KW.out hb)
  obtain ⟨e0, e1, e2, e3⟩ := wcells4 nW.out
  clear hb KW KR B
  go_wp2_with fail
  clear c0 c1 c2 c3 e0 e1 e2 e3
  (with_reducible refine (HI.out _).mono ?_)
  rintro e W2 ⟨v, rfl, hR, hb⟩
  have KW := Aside0.mk (blk_below nW.out hb)
  have KR := Aside0.mk (blk_below nR.out hb)
  have nF := Aside0.mk (blk_below KF.out hb)
  have B := Aside0.mk (below_step nB.out hb)
  have HR := Aside0.mk (Kd.R_lower hR nB.out.size)
  clear hb nW nR nB KF hR
  obtain ⟨c0, c1, c2, c3⟩ := wcells4 KW.out
  obtain ⟨x0, x1, x2, x3, x4, x5, x6, x7, x8, x9, x10, x11⟩ := cells12 nF.out
  obtain ⟨f0, f1, f2, f3, f4, f5, f6, f7, f8, f9, f10, f11⟩ := frozen12 nF.out
  have or33 : Go.bits .or .u32 1 32 = 33 := by decide +kernel
  go_wp2_with fail
  have KF := Aside0.mk (blk_put (cs' := #[.bool false, .int .u32 33, .bool false, .int .i64 0, .int .u8 0, .int .u8 0, .int .u8 0, .int .u8 0, .int .u8 0, .int .u8 0, .int .u8 0, .int .u8 0]) nF.out 1 (.int .u32 33) rfl)
  have nR := Aside0.mk (blk_far KR.out (p := ⟨W1.heap.size, 1, none⟩) (by have := L1.out; simp; omega) (.int .u32 33))
  have HV := Aside0.mk (Kd.R_set HR.out nF.out (by intro q hq; have : q = 5 := by simpa [Kd.int, Kd.scalar] using hq
                                                   omega) 1 (.int .u32 33))
  have nB := Aside0.mk (B.out.setCell (p := ⟨W1.heap.size, 1, none⟩) (by have := L1.out; simp; omega) (.int .u32 33))
  have L3 : Aside0 (w.heap.size + 1 < W1.heap.size) := L1
  clear x0 x1 x2 x3 x4 x5 x6 x7 x8 x9 x10 x11 f0 f1 f2 f3 f4 f5 f6 f7 f8 f9 f10 f11 or33 c0 c1 c2 c3 KR KW B HR nF
  generalize W2.setCell ⟨W1.heap.size, 1, none⟩ (.int .u32 33) = W3 at KF nR HV nB ⊢
  (with_reducible refine (HT.out _).mono ?_)
  rintro e W4 ⟨v2, rfl, hR, hb⟩
  obtain ⟨A6, c6, ev, hc6, hC6⟩ := Kd.R_reads hR
  subst ev
  have RY := Aside0.mk (show (Kd.int .u8).C W4 A6 6 [d2, d3, d4, d5, d6, d7] from hC6)
  have KR := Aside0.mk (blk_below nR.out hb)
  have nF := Aside0.mk (blk_below KF.out hb)
  have HR := Aside0.mk (Kd.R_below HV.out hb)
  have B := Aside0.mk (below_step nB.out hb)
  clear hR hb hC6 KF nR HV nB
  have KF := nF
  clear nF
  go_wp2_with (first | ((with_reducible refine gate_builtin (b := .append) (xs := #[.tmp 26, .tmp 29]) rfl ?_); at_builtin; refine Kd.R_append_row (fun x => Value.int .u8 x) (0 : Int) (h1 := fun _ => rfl) (w0 := w) w.heap.size rfl (.tmp 26) (.tmp 29) 32 5 (.int .u8 0) 1 rfl Try.underlying32 info5u rfl (by decide) _ [d0, d1] [d2, d3, d4, d5, d6, d7] A6 6 c6 (fun _ => True) rfl rfl (fun _ _ => trivial) HR.out RY.out B.out B.out.size (by simp) ?_; intro v1 w5 hR hb hg hat; obtain ⟨gs, cap, rfl, hcap, hgs, hc⟩ := R_bytes (xs := [d0, d1, d2, d3, d4, d5, d6, d7]) hR (by simp); have HS := Aside0.mk (src_of hc); have nF := Aside0.mk (blk_grown KF.out hg (Kd.R_ne HR.out KF.out (by decide))); have nR := Aside0.mk (blk_grown KR.out hg (Kd.R_ne HR.out KR.out (by decide))); have nB := Aside0.mk hb; clear hR hb hg hat hcap hgs hc KF KR B HR RY; have KF := nF; have KR := nR; have B := nB; clear nF nR nB) | ((with_reducible refine gate_builtin (b := .copy) (xs := #[.tmp 32, .tmp 33]) rfl ?_); refine wpList_copy_splice rfl _ _ 32 32 rfl 5 Try.underlying32 sz5 _ _ 8 8 8 cap rfl rfl W1.heap.size 4 [.bool false, .int .u32 33, .bool false, .int .i64 0, .int .u8 0, .int .u8 0, .int .u8 0, .int .u8 0, .int .u8 0, .int .u8 0, .int .u8 0, .int .u8 0] 67 KF.out ([d0, d1, d2, d3, d4, d5, d6, d7].map (fun x => Value.int .u8 x)) rfl (fun _ => ⟨rfl, _, rfl, HS.out⟩) (by simp) (one_of _) W1.heap.size w5 (Below.refl _ _) (Nat.le_refl _) ?_; intro w3 hs hb3; have KF9 : Aside0 (w3.heap[W1.heap.size]? = some (.cells #[.bool false, .int .u32 33, .bool false, .int .i64 0, .int .u8 d0, .int .u8 d1, .int .u8 d2, .int .u8 d3, .int .u8 d4, .int .u8 d5, .int .u8 d6, .int .u8 d7] 67 (0, 0))) := ⟨hs⟩; have KR3 := Aside0.mk (((hb3.block _ L1.out)).trans KR.out); have B3 := Aside0.mk (B.out.trans (hb3.mono (by have := L1.out; omega))); clear hs hb3 KR B KF HS; have KF := KF9; clear KF9; have KR := KR3; have B := B3; clear KR3 B3; have f3 := blk_frozen KF.out 3; have g3 := (blk_cell KF.out 3).trans rfl; obtain ⟨x0, x1, x2, x3, x4, x5, x6, x7, x8, x9, x10, x11⟩ := cells12 (blk_put (cs' := #[.bool false, .int .u32 33, .bool false, .int .i64 8, .int .u8 d0, .int .u8 d1, .int .u8 d2, .int .u8 d3, .int .u8 d4, .int .u8 d5, .int .u8 d6, .int .u8 d7]) KF.out 3 (.int .i64 8) rfl); obtain ⟨y0, y1, y2, y3, y4, y5, y6, y7, y8, y9, y10, y11⟩ := frozen12 KR.out; have KX := Aside0.mk (blk_far KR.out (p := ⟨W1.heap.size, 3, none⟩) (by have := L1.out; simp; omega) (.int .i64 8)); obtain ⟨z0, z1, z2, z3, z4, z5, z6, z7, z8, z9, z10, z11⟩ := cells12 KX.out; have BX := Aside0.mk (B.out.setCell (p := ⟨W1.heap.size, 3, none⟩) (by have := L1.out; simp; omega) (.int .i64 8))))
  (try simp only [Exit.inBlock, Exit.then])
  refine bodyPost_ret (results_ct rfl _ _ (w.heap.size + 1) 67 #[.bool false, .int .u32 33, .bool false, .int .i64 8, .int .u8 d0, .int .u8 d1, .int .u8 d2, .int .u8 d3, .int .u8 d4, .int .u8 d5, .int .u8 d6, .int .u8 d7] (0, 0) _ rfl (set12_blk _ _ _ _ _ _ _ _ _ _ _ _ KX.out) Try.underlying67 rfl (by kernel_rfl)) rfl ?_
  exact ⟨rfl, set12_below _ _ _ _ _ _ _ _ _ _ _ _ BX.out (by omega)⟩
end Go.Proofs.Ytgnkmpgnlpjglaa.P
