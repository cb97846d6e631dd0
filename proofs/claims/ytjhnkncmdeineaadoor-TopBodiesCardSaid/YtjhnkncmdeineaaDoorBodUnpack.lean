/- strand.Unpack of at most eight bytes, by the program; bits stay as they are behind truth. Conditions: those that each lemma names. -/
import Derived.Test.YtjhnkncmdeineaaDoorBodKey
namespace Go.Proofs.YtjhnkncmdeineaaDoor.P
open Go.RowKit Go.Proofs.YtjhnkncmdeineaaDoorW.PrintWords Go.Proofs.YtjhnkncmdeineaaDoorW.PrintLast Go.Proofs.YtjhnkncmdeineaaDoorW.PrintMore Go.Shelf
set_option linter.unusedVariables false
set_option linter.unusedSimpArgs false
theorem C_cells {W : World} {g off : Nat} (n : Nat) (xs : List Int) (hn : xs.length = n) (hm : n ≤ 100) (hx : ∀ j x, xs[j]? = some x → W.cell? ⟨g, off + j, none⟩ = some (.int .u8 x)) : (Kd.int .u8).C W (some ⟨g, off, none⟩) n xs := by
  refine ⟨hn, by omega, fun _ => ⟨⟨g, off, none⟩, rfl, fun j p hj => ⟨[.int .u8 p], rfl, rfl, fun i u hi => ?_⟩⟩⟩
  match i, hi with
  | 0, hi =>
    have e : u = .int .u8 p := by simpa using hi.symm
    subst e
    have ea : (⟨g, off, none⟩ : Addr).add (j * (Kd.int .u8).sz + 0) = ⟨g, off + j, none⟩ := by
      show (⟨g, off, none⟩ : Addr).add (j * 1 + 0) = _
      unfold Addr.add
      split
      · next hz => rw [show j = 0 by omega]; rfl
      · next hz => simp
    rw [ea]
    exact hx j p hj
  | i + 1, hi => simp at hi
theorem C_of_bytes {W : World} {n₀ g c n : Nat} {zs : List Int} (hn : zs.length = n) (hm : n ≤ 100) (h0 : 0 < n) (h : Bytes n₀ W (.slice (some ⟨g, 0, none⟩) n c) zs) : (Kd.int .u8).C W (some ⟨g, 0, none⟩) n zs := by
  rcases h with ⟨e, _⟩ | ⟨b, off, cap, e, hb, hc⟩
  · cases e
  · have e1 : (⟨g, 0, none⟩ : Addr) = ⟨b, off, none⟩ := by injection e with e1 _ _; injection e1
    injection e1 with e2 e3 _
    subst e2
    refine C_cells n zs hn hm fun j x hj => ?_
    have hlt : j < zs.length := (List.getElem?_eq_some_iff.1 hj).1
    have := hc j hlt
    rw [← e3] at this
    rw [this, hj]
    rfl
set_option maxHeartbeats 2000000 in
set_option maxRecDepth 100000 in
theorem Unpack_none (A : Option Addr) (cap : Nat) (w : World) :
    Calls Tryd.prog 11 #[.slice A 0 cap, .int .i64 0] w fun e W' => e = .returned (.slice none 0 0) ∧ Below w.heap.size w W' := by
  have B := Aside0.mk (Below.refl w.heap.size w)
  go_enter Tryd.func11, Tryd.ntmps11
  go_wp2_with fail
  go_loopg [5, 19] 1 (fun kq v5 v19 w' => v5 = .slice none 0 0 ∧ v19 = .int .i64 0 ∧ kq = 1 ∧ Aside0 (Below w.heap.size w w'))
  case atStart => exact ⟨rfl, rfl, rfl, B⟩
  case round =>
    obtain ⟨rfl, rfl, rfl, B⟩ := hrel
    go_wp2
    go_ret
    exact ⟨rfl, B.out⟩
theorem Unpack_any (A : Option Addr) (cap : Nat) (xs : List Int) (hx : ∀ x ∈ xs, 0 ≤ x ∧ x < 256) (h1 : xs.length ≤ 8) (w : World) (hC : (Kd.int .u8).C w A xs.length xs) :
    Calls Tryd.prog 11 #[.slice A xs.length cap, .int .i64 (8 * (xs.length : Int))] w fun e W' => ∃ A' c data, e = .returned (.slice A' (8 * xs.length) c) ∧ (Kd.int .u8).C W' A' (8 * xs.length) data ∧ Below w.heap.size w W' := by
  rcases Nat.eq_zero_or_pos xs.length with h0 | h0
  · rw [h0]
    exact (Unpack_none A cap w).mono fun e W' ⟨he, hb⟩ => ⟨none, 0, [], he, ⟨rfl, Nat.zero_le _, fun h => absurd h (by decide)⟩, hb⟩
  · exact (Unpack_calls A cap xs hx h0 (by omega) w hC).mono fun e W' ⟨g, he, hB, hb⟩ => ⟨_, _, _, he, C_of_bytes (by
      rw [List.length_flatMap]
      simp only [bitL_len, List.map_const', List.sum_replicate_nat]
      omega) (by omega) (by omega) hB, hb⟩
theorem bitL_tru (N : Int) : ∀ w, (bitL N w).map tru = bitL N w
  | 0 => rfl
  | w + 1 => by rw [bitL, List.map_cons, bitL_tru N w, tru_bit]
theorem bitsV_tru (e : Bool) (n : Int) (r : Bool) : (bitsV e n r).map tru = bitsV e n r := by
  unfold bitsV
  split
  · split
    · exact bitL_tru _ _
    · rw [List.map_take, bitL_tru]
  · rfl
theorem body_form (e : Bool) (n : Int) (r : Bool) (m cs : List Int) : ([0] ++ (bitsV e n r ++ m)).map tru ++ cs = 0 :: (bitsV e n r ++ (m.map tru ++ cs)) := by
  rw [List.map_append, List.map_append, bitsV_tru]
  simp
  rfl
end Go.Proofs.YtjhnkncmdeineaaDoor.P
