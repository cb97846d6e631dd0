/- crc.Sum by the program: it ends, and is a number of 16 bits, for any string of bits of at most 200; crc.Bits, crc.Seal. Conditions: those that each lemma names; the variable crc.divisor holds bytes. -/
import Derived.Test.YtjhnkncmdeineaaDoorBodClean
import Derived.WalkMore
namespace Go.Proofs.YtjhnkncmdeineaaDoor.P
open Go.RowKit Go.Proofs.YtjhnkncmdeineaaDoorW.PrintWords Go.Proofs.YtjhnkncmdeineaaDoorW.PrintLast Go.Proofs.YtjhnkncmdeineaaDoorW.PrintMore Go.Shelf
set_option linter.unusedVariables false
set_option linter.unusedSimpArgs false
/-- The divisor's cells. -/
def Div (w : World) : Prop := 0 < w.heap.size ∧ ∃ d : Nat → Int, ∀ j, j < 16 → w.cell? ⟨0, j, none⟩ = some (.int .u8 (d j))
theorem Div.below {w W : World} (h : Div w) (hb : Below w.heap.size w W) : Div W := by
  obtain ⟨h0, d, hd⟩ := h
  exact ⟨Nat.lt_of_lt_of_le h0 hb.size, d, fun j hj => (hb.cell (p := ⟨0, j, none⟩) h0).trans (hd j hj)⟩
theorem idx55 (e0 e1 e2 e3 e4 e5 e6 e7 e8 e9 e10 e11 e12 e13 e14 e15 : Int) : ∀ j : Nat, j < 16 → ∃ d : Int, ∀ W : World, (Instr.index 55 (.agg #[.int .u8 e0, .int .u8 e1, .int .u8 e2, .int .u8 e3, .int .u8 e4, .int .u8 e5, .int .u8 e6, .int .u8 e7, .int .u8 e8, .int .u8 e9, .int .u8 e10, .int .u8 e11, .int .u8 e12, .int .u8 e13, .int .u8 e14, .int .u8 e15]) (.int .i64 (j : Int))).run Tryd.prog W = .ok (.int .u8 d) W
  | 0, _ => ⟨e0, fun W => by kernel_rfl⟩
  | 1, _ => ⟨e1, fun W => by kernel_rfl⟩
  | 2, _ => ⟨e2, fun W => by kernel_rfl⟩
  | 3, _ => ⟨e3, fun W => by kernel_rfl⟩
  | 4, _ => ⟨e4, fun W => by kernel_rfl⟩
  | 5, _ => ⟨e5, fun W => by kernel_rfl⟩
  | 6, _ => ⟨e6, fun W => by kernel_rfl⟩
  | 7, _ => ⟨e7, fun W => by kernel_rfl⟩
  | 8, _ => ⟨e8, fun W => by kernel_rfl⟩
  | 9, _ => ⟨e9, fun W => by kernel_rfl⟩
  | 10, _ => ⟨e10, fun W => by kernel_rfl⟩
  | 11, _ => ⟨e11, fun W => by kernel_rfl⟩
  | 12, _ => ⟨e12, fun W => by kernel_rfl⟩
  | 13, _ => ⟨e13, fun W => by kernel_rfl⟩
  | 14, _ => ⟨e14, fun W => by kernel_rfl⟩
  | 15, _ => ⟨e15, fun W => by kernel_rfl⟩
  | j + 16, h => absurd h (by omega)
set_option maxRecDepth 100000 in
set_option maxHeartbeats 8000000 in
theorem Sum_calls (a : Option Addr) (cap : Nat) (zs : List Int) (hp : 0 < zs.length) (hreach : zs.length ≤ 200) (w : World) (hI : Bytes w.heap.size w (.slice a zs.length cap) zs) (hd : Div w) :
    Calls Tryd.prog 20 #[.slice a zs.length cap] w fun e W' => (∃ v, 0 ≤ v ∧ v < 65536 ∧ e = .returned (.int .u16 v)) ∧ Below w.heap.size w W' := by
  have HP := Aside0.mk (And.intro hp hreach)
  have HI := Aside0.mk hI
  have HD := Aside0.mk hd
  have CC := Aside0.mk (fun w hI => Clean_calls a cap zs hp (by omega) w hI)
  have hu55 := Tryd.underlying55
  clear hp hreach hI hd
  go_enter Tryd.func20, Tryd.ntmps20
  go_wp2_with fail
  go_step3
  go_wp2_with fail
  (with_reducible refine (CC.out _ HI.out).mono ?_)
  rintro e W1 ⟨v1, rfl, hR, hb⟩
  have HR := Aside0.mk hR
  have B := Aside0.mk hb
  clear hR hb CC HI
  have HZ : Aside0 (∀ W base, (Kd.int .u8).M W base (fun _ => False) (0 : Int) (Value.int .u8 0).cells.toList) := ⟨fun _ _ => rfl⟩
  have HLn : Aside0 (((zs.map tru).length + (15 : Int).toNat) * 1 ≤ 140737488355328) := ⟨by rw [List.length_map]; have := HP.out; simp only [Int.reduceToNat]; omega⟩
  dsimp only
  rename_i K3 hK3
  apply hK3
  (with_reducible refine gate_builtin (b := .append) (xs := #[.tmp 8, .const (.int .i64 15)]) rfl ?_)
  at_builtin
  refine Kd.R_append_zeros (Kd.int .u8) (w0 := w) w.heap.size rfl (.tmp 8) (.const (.int .i64 15)) 29 3 5 (.int .u8 0) 1 rfl Tryd.underlying29 Tryd.underlying3 info5u rfl (by decide) (by decide) _ (zs.map tru) (0 : Int) (kx := .i64) 15 (fun _ => True) rfl rfl (HZ.out _ _) (fun _ _ => trivial) HR.out (by decide) B.out B.out.size HLn.out ?_
  intro v2 w2 hR hb hg hat
  have nR := Aside0.mk hR
  have nB := Aside0.mk hb
  clear hR hb hg hat HR B HZ HLn
  have HR := nR
  have B := nB
  clear nR nB
  obtain ⟨g, c1, rfl, hbg, hgl, cells, hcells⟩ := Kd.R_form HR.out (by simp)
  have HF := Aside0.mk hcells
  clear hcells hbg hgl
  generalize hLs : zs.map tru ++ List.replicate (15 : Int).toNat (0 : Int) = L0 at HR
  have hL0 : L0.length = zs.length + 15 := by rw [← hLs]; simp
  obtain ⟨N, hN⟩ : ∃ N, zs.length + 15 = N := ⟨_, rfl⟩
  rw [hN] at hL0
  rw [hL0] at HR ⊢
  have HL0 := Aside0.mk hL0
  have HN := Aside0.mk hN
  clear hLs HF cells hL0 hN
  go_wp2_with fail
  go_step3
  go_wp2_with fail
  go_loopg [12] (zs.length + 1) (fun kq v12 w' => ∃ (k : Nat) (L : List Int), v12 = .int .i64 (k : Int) ∧ Aside0 (k ≤ zs.length ∧ k + kq = zs.length + 1) ∧ Aside0 (L.length = N) ∧ Aside0 (Below w.heap.size w w') ∧ Aside0 (Kd.R (Kd.int .u8) 5 w' w.heap.size (fun _ => True) (.slice (some ⟨g, 0, none⟩) N c1) L))
  case atStart => exact ⟨0, L0, rfl, ⟨by omega⟩, HL0, B, HR⟩
  case round =>
    clear HR B HL0 L0
    obtain ⟨k, L, rfl, HK, HL, B, HR⟩ := hrel
    by_cases hlt : k < zs.length
    · have u1 : decide ((k : Int) < (zs.length : Int)) = true := decide_eq_true (by omega)
      have u1b : decide (k < zs.length) = true := decide_eq_true hlt
      obtain ⟨k1, rfl⟩ : ∃ k1, gk = k1 + 1 := ⟨gk - 1, by have := HK.out; omega⟩
      have ki : wrap64 ((k : Int) + 1) = ((k + 1 : Nat) : Int) := by rw [i64w _ (by omega) (by have := HP.out; omega)]; rfl
      have LT := Aside0.mk hlt
      have i0 : (0 : Int) ≤ (k : Int) := by omega
      have i1 : (k : Int) < (N : Int) := by have := HN.out; omega
      obtain ⟨cl, _⟩ := Kd.R_celln (0 : Int) HR.out (k : Int) i0 i1
      simp only [Int.toNat_natCast] at cl
      generalize rdOf (0 : Int) L (k : Int) = x at cl
      clear hlt
      by_cases hx : (x == 0) = true
      · go_wp2
        go_roundg k1
        case rel => exact ⟨k + 1, L, by first | rfl | rw [ki], ⟨by have := HK.out; have := LT.out; omega⟩, HL, B, HR⟩
        case measure => omega
      · have hx : (x == 0) = false := by simpa using hx
        obtain ⟨_, d, hd⟩ := Div.below HD.out B.out
        have d0 := hd 0 (by decide)
        have d1 := hd 1 (by decide)
        have d2 := hd 2 (by decide)
        have d3 := hd 3 (by decide)
        have d4 := hd 4 (by decide)
        have d5 := hd 5 (by decide)
        have d6 := hd 6 (by decide)
        have d7 := hd 7 (by decide)
        have d8 := hd 8 (by decide)
        have d9 := hd 9 (by decide)
        have d10 := hd 10 (by decide)
        have d11 := hd 11 (by decide)
        have d12 := hd 12 (by decide)
        have d13 := hd 13 (by decide)
        have d14 := hd 14 (by decide)
        have d15 := hd 15 (by decide)
        clear hd
        generalize d 0 = e0, d 1 = e1, d 2 = e2, d 3 = e3, d 4 = e4, d 5 = e5, d 6 = e6, d 7 = e7, d 8 = e8, d 9 = e9, d 10 = e10, d 11 = e11, d 12 = e12, d 13 = e13, d 14 = e14, d 15 = e15 at *
        clear d
        go_wp2_with fail
        clear d0 d1 d2 d3 d4 d5 d6 d7 d8 d9 d10 d11 d12 d13 d14 d15 cl i0 i1 u1 u1b hx
        obtain ⟨wo, rfl⟩ : ∃ wo : World, wo = wr := ⟨_, rfl⟩
        go_loopg [21] 17 (fun kq v21 w' => ∃ (j : Nat) (M : List Int), v21 = .int .i64 (j : Int) ∧ Aside0 (j ≤ 16 ∧ j + kq = 17) ∧ Aside0 (M.length = N) ∧ Aside0 (Below w.heap.size w w') ∧ Aside0 (Kd.R (Kd.int .u8) 5 w' w.heap.size (fun _ => True) (.slice (some ⟨g, 0, none⟩) N c1) M))
        case atStart => exact ⟨0, L, rfl, ⟨by omega⟩, HL, B, HR⟩
        case round =>
          clear HR B HL
          obtain ⟨j, M, rfl, HJ, HM, B, HR⟩ := hrel
          by_cases hj : j < 16
          · have u2 : decide ((j : Int) < 16) = true := decide_eq_true (by omega)
            have u2b : decide (j < 16) = true := decide_eq_true hj
            obtain ⟨k2, rfl⟩ : ∃ k2, gk = k2 + 1 := ⟨gk - 1, by have := HJ.out; omega⟩
            have kj : wrap64 ((j : Int) + 1) = ((j + 1 : Nat) : Int) := by rw [i64w _ (by omega) (by omega)]; rfl
            have LJ := Aside0.mk hj
            obtain ⟨q, hq⟩ : ∃ q, k + j = q := ⟨_, rfl⟩
            have wq : wrap64 ((k : Int) + (j : Int)) = (q : Int) := by rw [i64w _ (by omega) (by have := HP.out; have := LT.out; omega)]; exact_mod_cast hq
            have q0 : (0 : Int) ≤ (q : Int) := by omega
            have q1 : (q : Int) < (N : Int) := by have := HN.out; have := LT.out; omega
            obtain ⟨cl, fl⟩ := Kd.R_celln (0 : Int) HR.out (q : Int) q0 q1
            have PU : Aside0 (∀ y : Int, Kd.R (Kd.int .u8) 5 (wr.setCell ⟨g, q, none⟩ (.int .u8 y)) w.heap.size (fun _ => True) (.slice (some ⟨g, 0, none⟩) N c1) (M.set q y)) := ⟨fun y => by have := Kd.R_putn (enc := fun x => Value.int .u8 x) (h1 := fun _ => rfl) HR.out (q : Int) y; simp only [Int.toNat_natCast] at this; exact this⟩
            have BG : Aside0 (w.heap.size ≤ g) := ⟨Kd.R_base HR.out g rfl⟩
            simp only [Int.toNat_natCast] at cl fl
            generalize rdOf (0 : Int) M (q : Int) = y at cl
            clear hq
            obtain ⟨d, hrun⟩ := idx55 e0 e1 e2 e3 e4 e5 e6 e7 e8 e9 e10 e11 e12 e13 e14 e15 j hj
            have hrn := hrun wr
            clear hj hrun
            go_wp2
            go_roundg k2
            case rel => exact ⟨j + 1, _, by first | rfl | rw [kj], ⟨by have := HJ.out; have := LJ.out; omega⟩, ⟨(List.length_set ..).trans HM.out⟩, ⟨B.out.setCell (p := ⟨g, q, none⟩) BG.out _⟩, ⟨PU.out _⟩⟩
            case measure => omega
          · have u2 : decide ((j : Int) < 16) = false := decide_eq_false (by omega)
            have u2b : decide (j < 16) = false := decide_eq_false hj
            go_wp2
            go_roundg k1
            case rel => exact ⟨k + 1, M, by first | rfl | rw [ki], ⟨by have := HK.out; have := LT.out; omega⟩, HM, B, HR⟩
            case measure => omega
    · have u1 : decide ((k : Int) < (zs.length : Int)) = false := decide_eq_false (by omega)
      have u1b : decide (k < zs.length) = false := decide_eq_false hlt
      have hle := (Kd.R_reads' HR.out).2.1
      have hne : L ≠ [] := by intro e; have := HL.out; have := HN.out; rw [e] at *; simp at *; omega
      obtain ⟨g2, cap2, e, _, hg, hc⟩ := R_bytes HR.out hne
      cases e
      have hI : Bytes wr.heap.size wr (.slice (some ⟨g, zs.length, none⟩) (L.length - zs.length) (c1 - zs.length)) (L.drop zs.length) :=
        .inr ⟨g, zs.length, _, by rw [List.length_drop], hg, fun j hj => by
          rw [List.getElem?_drop]
          rw [List.length_drop] at hj
          have := hc (zs.length + j) (by omega)
          rwa [Nat.zero_add] at this⟩
      have hlen : (L.drop zs.length).length ≤ 200 := by rw [List.length_drop]; have := HN.out; omega
      have NC := Aside0.mk (Number_calls (some ⟨g, zs.length, none⟩) (L.length - zs.length) (c1 - zs.length) (L.drop zs.length) (by omega) wr hI)
      have q0 : (0 : Int) ≤ (zs.length : Int) := by omega
      have q1 : (zs.length : Int) ≤ (L.length : Int) := by have := HN.out; omega
      have q2 : ¬ c1 = zs.length := by have := HN.out; omega
      clear hc hI hlen hle hne hg
      go_wp2_with fail
      (with_reducible refine (NC.out).mono ?_)
      rintro e W5 ⟨rfl, hb⟩
      have nB := Aside0.mk (below_step B.out hb)
      clear hb NC
      go_wp2
      (try simp only [Exit.noGoto, Exit.then])
      go_ret
      refine ⟨⟨_, ?_, ?_, rfl⟩, nB.out⟩
      · rw [IntKind.wrap_u16]; omega
      · rw [IntKind.wrap_u16]; omega
end Go.Proofs.YtjhnkncmdeineaaDoor.P
