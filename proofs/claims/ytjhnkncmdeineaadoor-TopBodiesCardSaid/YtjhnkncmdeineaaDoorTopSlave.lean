/- The bytes of a word's numbers, by the program. Conditions: those that each lemma names. -/
import Derived.Test.YtjhnkncmdeineaaDoorTopPack
namespace Go.Proofs.YtjhnkncmdeineaaDoor.P
open Go.RowKit Go.Proofs.YtjhnkncmdeineaaDoorW.PrintWords Go.Proofs.YtjhnkncmdeineaaDoorW.PrintLast Go.Proofs.YtjhnkncmdeineaaDoorW.PrintMore Go.Shelf
set_option linter.unusedVariables false
set_option linter.unusedSimpArgs false
theorem Number_calls (a : Option Addr) (len cap : Nat) (zs : List Int) (hreach : zs.length * 8 ≤ 140737488351232) (w : World) (hI : Bytes w.heap.size w (.slice a len cap) zs) :
    Calls Tryd.prog 24 #[.slice a len cap] w fun e W' => e = .returned (.int .u64 (numV zs)) ∧ Below w.heap.size w W' :=
  callsIn_wide.1 (Number_in Fence.wide 3 trivial trivial trivial trivial rfl (Nat.le_refl _) a len cap zs hreach w hI)
theorem R_bytes {w : World} {base : Nat} {ok : Nat → Prop} {v : Value} {xs : List Int} (h : Kd.R (Kd.int .u8) 5 w base ok v xs) (hx : xs ≠ []) :
    ∃ g cap, v = .slice (some ⟨g, 0, none⟩) xs.length cap ∧ xs.length ≤ cap ∧ g < w.heap.size ∧ ∀ j, j < xs.length → w.cell? ⟨g, 0 + j, none⟩ = some (.int .u8 (xs[j]?.getD 0)) := by
  obtain ⟨A, c, e, hl, hC⟩ := Kd.R_reads h
  obtain ⟨inner, ho⟩ := Kd.R_own h
  have hlt := own_lt ho
  have hp : 0 < xs.length := List.length_pos_iff.2 hx
  rcases ho.2 with ⟨rfl, h0⟩ | ⟨g, cap, cur, rfl, hg, hh, r⟩
  · exfalso
    injection e with _ e _
    omega
  · injection e with e1 e2 e3
    subst e1; subst e3
    obtain ⟨ad, e4, hc⟩ := hC.2.2 hp
    injection e4 with e4
    subst e4
    refine ⟨g, cap, rfl, hl, hlt g rfl, fun j hj => ?_⟩
    obtain ⟨c, hs, hr, hcell⟩ := hc j _ (List.getElem?_eq_getElem hj)
    have hr' : c = [.int .u8 xs[j]] := hr
    subst hr'
    have := hcell 0 _ rfl
    simp only [Kd.int, Kd.scalar, Nat.mul_one, Nat.add_zero, Addr.add, Nat.zero_add] at this ⊢
    have e0 : (if j = 0 then (⟨g, 0, none⟩ : Addr) else ⟨g, j, none⟩) = ⟨g, j, none⟩ := by split <;> simp_all
    rw [e0] at this
    rw [this, List.getElem?_eq_getElem hj]
    rfl
theorem R_cells {W : World} {base g m : Nat} {l : List Int} (h : W.heap[g]? = some (.cells (u8s l) 5 (0, 0))) (hl : l.length = m) (hb : base ≤ g) (hm : m ≤ 1000) : Kd.R (Kd.int .u8) 5 W base (fun _ => True) (.slice (some ⟨g, 0, none⟩) m m) l := by
  subst hl
  refine Kd.R_of_own ⟨by simp [encs], .inr ⟨g, l.length, _, rfl, hb, h, Nat.le_refl _, by simp only [maxLen]; omega, by simp [u8s], ?_⟩⟩ (fun _ _ => trivial)
  simp only [u8s, encs, Nat.mul_one]
  exact List.take_of_length_le (by simp)
set_option maxHeartbeats 4000000 in
set_option maxRecDepth 100000 in
theorem Unpack_calls (A : Option Addr) (cap : Nat) (xs : List Int) (hx : ∀ x ∈ xs, 0 ≤ x ∧ x < 256) (h0 : 0 < xs.length) (h1 : xs.length ≤ 100) (w : World) (hC : (Kd.int .u8).C w A xs.length xs) :
    Calls Tryd.prog 11 #[.slice A xs.length cap, .int .i64 (8 * (xs.length : Int))] w fun e W' => ∃ g, e = .returned (.slice (some ⟨g, 0, none⟩) (8 * xs.length) (8 * xs.length)) ∧ Bytes W'.heap.size W' (.slice (some ⟨g, 0, none⟩) (8 * xs.length) (8 * xs.length)) (xs.flatMap (fun b => bitL b 8)) ∧ Below w.heap.size w W' := by
  have HC := Aside0.mk hC
  have HX := Aside0.mk hx
  have HL := Aside0.mk (And.intro h0 h1)
  have u1 : decide (8 * (xs.length : Int) < 0) = false := decide_eq_false (by omega)
  have u2 : wrap64 (8 * (xs.length : Int)) = 8 * (xs.length : Int) := i64w _ (by omega) (by omega)
  have u3 : decide (8 * (xs.length : Int) < 8 * (xs.length : Int)) = false := decide_eq_false (by omega)
  clear hC hx h0 h1
  go_enter Tryd.func11, Tryd.ntmps11
  go_wp2
  clear u1 u2 u3
  go_loopg [5, 19] (xs.length + 1) (fun kq v5 v19 w' => ∃ (k : Nat) (u : Value) (zs : List Int), v5 = u ∧ v19 = .int .i64 (k : Int) ∧ Aside0 (k ≤ xs.length ∧ xs.length < k + kq ∧ zs.length = 8 * k) ∧ Aside0 (zs = (xs.take k).flatMap (fun b => bitL b 8)) ∧ Aside0 (Below w.heap.size w w') ∧ Aside0 (Kd.R (Kd.int .u8) 5 w' w.heap.size (fun _ => True) u zs))
  case atStart => exact ⟨0, _, [], rfl, rfl, ⟨⟨by omega, by omega, rfl⟩⟩, ⟨rfl⟩, ⟨Below.refl _ _⟩, ⟨Kd.R_nil _ _ _ _ _⟩⟩
  case round =>
    obtain ⟨k, u, zs, rfl, rfl, HK, HZ, B, HR⟩ := hrel
    cases gk with
    | zero => exact absurd HK.out (by omega)
    | succ k1 =>
      by_cases hlt : k < xs.length
      · have u4 : decide ((k : Int) < (xs.length : Int)) = true := decide_eq_true (by omega)
        have u4b : decide (k < xs.length) = true := decide_eq_true hlt
        have p1 : (0 ≤ (k : Int)) = True := eq_true (by omega)
        have q1 : ((k : Int) < (xs.length : Int)) = True := eq_true (by omega)
        obtain ⟨ad, ea, y0⟩ := Kd.at_int (Kd.C_below HC.out B.out) (k : Int) (by omega) (by omega)
        cases ea
        have k1' : wrap64 ((k : Int) + 1) = ((k + 1 : Nat) : Int) := by rw [i64w _ (by omega) (by have := HL.out; omega)]; rfl
        have ex : rd xs (k : Int) = xs[k] := by simp [rd, hlt]
        have hxr := HX.out _ (List.getElem_mem hlt)
        have HN : Aside0 (zs ++ bitL xs[k] 8 = (xs.take (k + 1)).flatMap (fun b => bitL b 8)) := ⟨by rw [List.take_succ_eq_append_getElem hlt, List.flatMap_append, ← HZ.out]; simp⟩
        rw [ex] at y0
        simp only [Int.toNat_natCast] at y0
        have KL := Aside0.mk hlt
        generalize xs[k] = x at y0 hxr HN
        clear ex hlt
        have en : IntKind.u64.wrap x = x := by rw [u64w]; omega
        have OF : Aside0 (∀ w, Calls Tryd.prog 10 #[.int .u64 x, .int .i64 8] w fun e w' => ∃ v0_ : Value, e = .returned (v0_) ∧ Kd.R (Kd.int .u8) 5 w' w.heap.size (fun _ => True) v0_ (bitL x 8) ∧ Below w.heap.size w w') := ⟨fun w => strand_Of.calls 70 x ((8 : Nat) : Int) (bitL x 8) w (Of_eq 8 (by decide) (by decide) x hxr.1 (by omega) 70 (by decide))⟩
        clear hxr
        go_wp2_with fail
        (with_reducible refine (OF.out _).mono ?_)
        rintro e W1 ⟨v, rfl, hR, hb⟩
        obtain ⟨A1, c1, ev, hc1, hC1⟩ := Kd.R_reads hR
        subst ev
        have RY := Aside0.mk hC1
        have nB := Aside0.mk (below_step B.out hb)
        have nR := Aside0.mk (Kd.R_below HR.out hb)
        clear hR hb hC1 B HR y0
        have B := nB
        have HR := nR
        clear nB nR
        have lb : (bitL x 8).length = 8 := bitL_len _ _
        rw [lb] at RY ⊢
        have LB := Aside0.mk lb
        clear lb
        go_wp2_with (first | ((with_reducible refine gate_builtin (b := .append) (xs := #[.tmp 23, .tmp 26]) rfl ?_); at_builtin; refine Kd.R_append_row (fun x => Value.int .u8 x) (0 : Int) (h1 := fun _ => rfl) (w0 := w) w.heap.size rfl (.tmp 23) (.tmp 26) 29 5 (.int .u8 0) 1 rfl Tryd.underlying29 info5u rfl (by decide) _ zs (bitL x 8) A1 8 c1 (fun _ => True) rfl rfl (fun _ _ => trivial) HR.out RY.out B.out B.out.size (by have := HK.out; have := KL.out; have := HL.out; omega) ?_; intro v1 w1 hR hb hg hat; have nR := Aside0.mk (show Kd.R (Kd.int .u8) 5 w1 w.heap.size (fun _ => True) v1 (zs ++ bitL x 8) from hR); have nB := Aside0.mk hb; clear hR hb hg hat HR B RY; have HR := nR; have B := nB; clear nR nB))
        go_roundg k1
        case rel => exact ⟨k + 1, _, zs ++ bitL x 8, rfl, by first | rfl | rw [k1'], ⟨⟨by have := KL.out; omega, by have := HK.out; omega, by rw [List.length_append, LB.out]; have := HK.out; omega⟩⟩, HN, B, HR⟩
        case measure => omega
      · have u4 : decide ((k : Int) < (xs.length : Int)) = false := decide_eq_false (by omega)
        have u4b : decide (k < xs.length) = false := decide_eq_false hlt
        have hk : k = xs.length := by have := HK.out; omega
        have hz := HZ.out
        have lz := HK.out.2.2
        rw [hk, List.take_length] at hz
        rw [hk] at lz
        obtain ⟨g, cap1, rfl, hcap, hg, hc⟩ := R_bytes HR.out (by intro h; rw [h] at lz; have := HL.out; simp at lz; omega)
        have HZ2 : Aside0 (Bytes wr.heap.size wr (.slice (some ⟨g, 0, none⟩) (8 * xs.length) (8 * xs.length)) (xs.flatMap (fun b => bitL b 8))) := ⟨by rw [← hz]; exact .inr ⟨g, 0, _, by rw [lz], hg, hc⟩⟩
        rw [lz] at hcap ⊢
        have p1 : (0 : Int) ≤ 8 * (xs.length : Int) := by omega
        have p2 : 8 * (xs.length : Int) ≤ (cap1 : Int) := by omega
        have p3 : 8 * (xs.length : Int) ≤ 8 * (xs.length : Int) := Int.le_refl _
        have p4 : (8 * (xs.length : Int)).toNat = 8 * xs.length := by omega
        clear hlt hk hz lz hcap hg hc HR
        go_wp2
        go_ret
        exact ⟨g, rfl, HZ2.out, B.out⟩
