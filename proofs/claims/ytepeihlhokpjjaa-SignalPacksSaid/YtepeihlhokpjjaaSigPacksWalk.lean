/- What is packed is unpacked as it was, and again: the walk. Condition: the numbers are of their kinds. -/
import Derived.Test.YtepeihlhokpjjaaSigPacksPlain
import Derived.Test.YtepeihlhokpjjaaSigLive
import Derived.Test.YtepeihlhokpjjaaSigRGet
namespace Go.Proofs.Ytepeihlhokpjjaa.P
open Go.RowKit Go.Proofs.YtepeihlhokpjjaaW.PrintWords Go.Proofs.YtepeihlhokpjjaaW.PrintLast Go.Proofs.YtepeihlhokpjjaaW.PrintMore
set_option linter.unusedVariables false
set_option linter.unusedSimpArgs false
theorem packL_len (wl : List Int) : ∀ (l : List S23) (i : Nat) (d : List Int), d.length = 8 → (packL wl l i d).1.length = 8
  | [], i, d, h => h
  | x :: r, i, d, h => by
    show (if (rawV (Sg.of x) (rd wl (i : Int))).2 = true then packL wl r (i + 1) (putV d (Sg.of x) (rawV (Sg.of x) (rd wl (i : Int))).1).1 else (zeros8, (i : Int), 1)).1.length = 8
    split
    · exact packL_len wl r (i + 1) _ (putV_len d _ _ h)
    · rfl
theorem packV_len (l : List S23) (wl : List Int) : (packV l wl).1.length = 8 := by
  unfold packV
  split
  · split
    · exact packL_len wl l 0 zeros8 rfl
    · rfl
  · rfl
theorem packV_same {l : List S23} {wl : List Int} (h : (packV l wl).2.2 = 0) : wl.length = l.length ∧ l.length ≤ 64 := by
  unfold packV at h
  split at h
  · next hc =>
    split at h
    · next hl => exact ⟨by omega, (checkV_spec hc).2.2.2⟩
    · cases h
  · exact absurd h (by simpa using ‹_›)
theorem Longs_l0 (l : List Int) (hl : l.length ≤ 1000) : ∀ (m i : Nat), i + m = l.length → bellbuoyref35_Longs.l0 (m + 1) l l (i : Int) = some true
  | 0, i, h => by
    unfold bellbuoyref35_Longs.l0
    rw [if_neg (by omega)]
  | m + 1, i, h => by
    unfold bellbuoyref35_Longs.l0
    rw [if_pos (by omega), if_pos (by omega), if_pos (by omega), if_pos rfl, show wrap64 ((i : Int) + 1) = ((i + 1 : Nat) : Int) by rw [wr_small _ (by omega) (by omega)]; rfl]
    exact Longs_l0 l hl m (i + 1) (by omega)
theorem Longs_calls {l : List Int} (hl : l.length ≤ 1000) {A1 A2 : Option Addr} {c1 c2 : Nat} (h1 : l.length ≤ c1) (h2 : l.length ≤ c2) {w : World} (hA : (Kd.int .i64).C w A1 l.length l) (hB : (Kd.int .i64).C w A2 l.length l) :
    Calls Try.prog 32 #[.slice A1 l.length c1, .slice A2 l.length c2] w fun e w' => e = .returned (.bool true) ∧ Below w.heap.size w w' :=
  (bellbuoyref35_Longs.calls (l.length + 1) A1 c1 l A2 c2 l true w hA h1 hB h2 (by unfold bellbuoyref35_Longs.f; rw [if_pos rfl]; exact Longs_l0 l hl l.length 0 (by omega))).mono (fun e w' h => ⟨h.1, h.2.below⟩)
theorem take_C {w : World} {A : Option Addr} {l : List S23} {m : Nat} (h : Kd.C k23 w A l.length l) (hm : m ≤ l.length) : Kd.C k23 w A m (l.take m) := by
  obtain ⟨h1, h2, h3⟩ := h
  refine ⟨by rw [List.length_take]; omega, by omega, fun h0 => ?_⟩
  obtain ⟨ad, ha, hr⟩ := h3 (by omega)
  refine ⟨ad, ha, fun j p hp => hr j p ?_⟩
  rw [List.getElem?_take] at hp
  split at hp
  · exact hp
  · cases hp
theorem mem_rd {l : List S23} {k : Nat} (h : k < l.length) : rd_T23 l (k : Int) ∈ l := by
  have : rd_T23 l (k : Int) = l[k] := by simp [rd_T23, h]
  rw [this]
  exact List.getElem_mem h
structure Pw (ad : Addr) (k : Nat) (g0 g1 : Int) (g2 g3 : Bool) (g4 g5 : Int) (x0 x1 x2 x3 x4 x5 x6 x7 d0 d1 d2 d3 d4 d5 d6 d7 : Int) (b5 b16 : Nat) (w W : World) : Prop where
  kd : W.heap[b5]? = some (.cells (oct d0 d1 d2 d3 d4 d5 d6 d7) 24 (0, 0))
  kx : W.heap[b16]? = some (.cells (oct x0 x1 x2 x3 x4 x5 x6 x7) 24 (0, 0))
  c0 : W.cell? (ad.add (k * 6)) = some (.int .i64 g0)
  c1 : W.cell? ⟨(ad.add (k * 6)).block, (ad.add (k * 6)).off + 1, none⟩ = some (.int .i64 g1)
  c2 : W.cell? ⟨(ad.add (k * 6)).block, (ad.add (k * 6)).off + 2, none⟩ = some (.bool g2)
  c3 : W.cell? ⟨(ad.add (k * 6)).block, (ad.add (k * 6)).off + 3, none⟩ = some (.bool g3)
  c4 : W.cell? ⟨(ad.add (k * 6)).block, (ad.add (k * 6)).off + 4, none⟩ = some (.int .i64 g4)
  c5 : W.cell? ⟨(ad.add (k * 6)).block, (ad.add (k * 6)).off + 5, none⟩ = some (.int .i64 g5)
  B : Below w.heap.size w W
theorem Pw.below {ad : Addr} {k : Nat} {g0 g1 : Int} {g2 g3 : Bool} {g4 g5 : Int} {x0 x1 x2 x3 x4 x5 x6 x7 d0 d1 d2 d3 d4 d5 d6 d7 : Int} {b5 b16 : Nat} {w W W' : World} (h : Pw ad k g0 g1 g2 g3 g4 g5 x0 x1 x2 x3 x4 x5 x6 x7 d0 d1 d2 d3 d4 d5 d6 d7 b5 b16 w W) (hb : Below W.heap.size W W') : Pw ad k g0 g1 g2 g3 g4 g5 x0 x1 x2 x3 x4 x5 x6 x7 d0 d1 d2 d3 d4 d5 d6 d7 b5 b16 w W' :=
  ⟨blk_below h.kd hb, blk_below h.kx hb, (hb.cell (World.block_lt_of_cell? W _ h.c0)).trans h.c0, (hb.cell (World.block_lt_of_cell? W _ h.c1)).trans h.c1, (hb.cell (World.block_lt_of_cell? W _ h.c2)).trans h.c2, (hb.cell (World.block_lt_of_cell? W _ h.c3)).trans h.c3, (hb.cell (World.block_lt_of_cell? W _ h.c4)).trans h.c4, (hb.cell (World.block_lt_of_cell? W _ h.c5)).trans h.c5, below_step h.B hb⟩
set_option maxHeartbeats 40000000 in
set_option maxRecDepth 100000 in
theorem Packs_All (l0 l : List S23) (A : Option Addr) (cp : Nat) (wl : List Int) (A2 : Option Addr) (cp2 : Nat) (d0 d1 d2 d3 d4 d5 d6 d7 : Int) (w : World) (hl0 : l0 = l) (hl : l.length ≤ 12) (hC0 : Kd.C k23 w A l.length l) (hW : (Kd.int .i64).C w A2 wl.length wl) (hc2 : wl.length ≤ cp2) (hS : ∀ x ∈ l, In64 x.f4 ∧ In64 x.f5) (hI : ∀ x ∈ wl, In64 x) (hd : Byts [d0, d1, d2, d3, d4, d5, d6, d7]) :
    Calls Try.prog 6 #[.slice A l0.length cp, .slice A2 wl.length cp2, .agg (oct d0 d1 d2 d3 d4 d5 d6 d7)] w fun e w' => e = .returned (.bool true) ∧ Below w.heap.size w w' := by
  subst hl0
  have u1 : decide ((l0.length : Int) > 12) = false := decide_eq_false (by omega)
  have u1b : decide (l0.length > 12) = false := decide_eq_false (by omega)
  have hu23 := Try.underlying23
  have hu24 := Try.underlying24
  have hu39 := Try.underlying39
  have hu40 := Try.underlying40
  have HL : Aside0 (l0.length = l0.length ∧ l0.length ≤ 12) := ⟨⟨rfl, hl⟩⟩
  have HC : Aside0 (Kd.C k23 w A l0.length l0) := ⟨hC0⟩
  have HW := Aside0.mk hW
  have HD := Aside0.mk hd
  have HS := Aside0.mk hS
  have HC2 := Aside0.mk hc2
  have PK : Aside0 (∀ (us : List Int) (A9 : Option Addr) (c9 : Nat) (w' : World), Kd.C k23 w' A l0.length l0 → (Kd.int .i64).C w' A9 us.length us → (∀ x ∈ us, In64 x) → Calls Try.prog 26 #[.slice A l0.length cp, .slice A9 us.length c9] w' fun e w'' => e = .returned (.tuple #[.agg (bytesA (packV l0 us).1), .int .i64 (packV l0 us).2.1, .int .i64 (packV l0 us).2.2]) ∧ Below w'.heap.size w' w'') := ⟨fun us A9 c9 w' h1 h2 h3 => by
    have := Pack_walk l0 A cp us A9 c9 w' h1 h2 hS h3
    exact this⟩
  have UN : Aside0 (∀ (d : List Int) (w' : World), d.length = 8 → Kd.C k23 w' A l0.length l0 → Calls Try.prog 28 #[.slice A l0.length cp, .agg (bytesA d)] w' fun e w'' => ∃ v, e = .returned (.tuple #[v, .int .i64 (unpackV l0 d).2.1, .int .i64 (unpackV l0 d).2.2]) ∧ Kd.R (Kd.int .i64) 2 w'' w'.heap.size (fun _ => True) v (unpackV l0 d).1 ∧ Below w'.heap.size w' w'') := ⟨fun d w' h1 h2 => by
    have := Unpack_walk l0 A cp d h1 w' h2 hS
    exact this⟩
  have P1L := packV_len l0 wl
  have P1E := @pack_unpack l0 wl
  have P1S := @packV_same l0 wl
  have P1 := fun w' h1 h2 => PK.out wl A2 cp2 w' h1 h2 hI
  generalize packV l0 wl = pv at P1L P1E P1S P1
  obtain ⟨y, pn, pe⟩ := pv
  dsimp only at P1L P1E P1S P1
  obtain ⟨y0, y1, y2, y3, y4, y5, y6, y7, rfl⟩ := eight P1L
  have P1 : Aside0 (∀ w', Kd.C k23 w' A l0.length l0 → (Kd.int .i64).C w' A2 wl.length wl → Calls Try.prog 26 #[.slice A l0.length cp, .slice A2 wl.length cp2] w' fun e w'' => e = .returned (.tuple #[.agg (oct y0 y1 y2 y3 y4 y5 y6 y7), .int .i64 pn, .int .i64 pe]) ∧ Below w'.heap.size w' w'') := ⟨P1⟩
  have PE := Aside0.mk P1E
  have PS := Aside0.mk P1S
  have U2E := @unpack_pack l0 [d0, d1, d2, d3, d4, d5, d6, d7]
  have U2X := @unpack_err l0 [d0, d1, d2, d3, d4, d5, d6, d7]
  have U2 := fun w' h2 => UN.out [d0, d1, d2, d3, d4, d5, d6, d7] w' rfl h2
  generalize unpackV l0 [d0, d1, d2, d3, d4, d5, d6, d7] = uv at U2E U2X U2
  obtain ⟨us, un, ue⟩ := uv
  dsimp only at U2E U2X U2
  have U2 : Aside0 (∀ w', Kd.C k23 w' A l0.length l0 → Calls Try.prog 28 #[.slice A l0.length cp, .agg (oct d0 d1 d2 d3 d4 d5 d6 d7)] w' fun e w'' => ∃ v, e = .returned (.tuple #[v, .int .i64 un, .int .i64 ue]) ∧ Kd.R (Kd.int .i64) 2 w'' w'.heap.size (fun _ => True) v us ∧ Below w'.heap.size w' w'') := ⟨U2⟩
  have UE := Aside0.mk U2E
  have UX := Aside0.mk U2X
  clear P1L P1E P1S U2E U2X hC0 hW hd hS hI hc2 hl
  have K0 := Aside0.mk (blk_new w (.cells (oct d0 d1 d2 d3 d4 d5 d6 d7) 24))
  have B0 := Aside0.mk (below_alloc (Below.refl w.heap.size w) (.cells (oct d0 d1 d2 d3 d4 d5 d6 d7) 24))
  go_enter Try.func6, Try.ntmps6
  go_wp2_with fail
  (with_reducible refine (P1.out _ (Kd.C_below HC.out B0.out) (Kd.C_below HW.out B0.out)).mono ?_)
  rintro e W1 ⟨rfl, hb⟩
  have KD := Aside0.mk (blk_below (blk_below K0.out hb) (below_alloc (Below.refl _ _) (.cells (oct y0 y1 y2 y3 y4 y5 y6 y7) 24)))
  have KY := Aside0.mk (blk_new W1 (.cells (oct y0 y1 y2 y3 y4 y5 y6 y7) 24))
  have B := Aside0.mk (below_alloc (below_step B0.out hb) (.cells (oct y0 y1 y2 y3 y4 y5 y6 y7) 24))
  clear K0 B0 hb
  obtain ⟨mid, hmid⟩ : ∃ b : Bool, (pe == 0) = b := ⟨_, rfl⟩
  cases mid
  case' true =>
    have hpe : pe = 0 := by simpa using hmid
    have e1 := PE.out hpe
    have sm := PS.out hpe
    have U1 : Aside0 (∀ w', Kd.C k23 w' A l0.length l0 → Calls Try.prog 28 #[.slice A l0.length cp, .agg (oct y0 y1 y2 y3 y4 y5 y6 y7)] w' fun e w'' => ∃ v, e = .returned (.tuple #[v, .int .i64 (l0.length : Int), .int .i64 0]) ∧ Kd.R (Kd.int .i64) 2 w'' w'.heap.size (fun _ => True) v wl ∧ Below w'.heap.size w' w'') := ⟨fun w' h2 => by
      have := UN.out [y0, y1, y2, y3, y4, y5, y6, y7] w' rfl h2
      rw [e1.1] at this
      exact this⟩
    have LW : Aside0 (wl.length ≤ 1000) := ⟨by omega⟩
    have q1 : ((l0.length : Int) != (l0.length : Int)) = false := by simp
    clear hpe e1 sm
    obtain ⟨y0', y1', y2', y3', y4', y5', y6', y7'⟩ := oct_cells KY.out
    go_wp2_with fail
    (with_reducible refine (U1.out _ (Kd.C_below HC.out B.out)).mono ?_)
    rintro e W2 ⟨v, rfl, hR, hb⟩
    obtain ⟨A5, c5, ev, hc5, hC5⟩ := Kd.R_reads hR
    subst ev
    have R5 := Aside0.mk hC5
    have nD := Aside0.mk (blk_below KD.out hb)
    have nB := Aside0.mk (below_step B.out hb)
    clear hb hR hC5 KD B KY y0' y1' y2' y3' y4' y5' y6' y7'
    have KD := nD
    have B := nB
    clear nD nB
    go_wp2_with fail
    (with_reducible refine (Longs_calls LW.out hc5 HC2.out R5.out (Kd.C_below HW.out B.out)).mono ?_)
    rintro e W3 ⟨rfl, hb⟩
    have nD := Aside0.mk (blk_below KD.out hb)
    have nB := Aside0.mk (below_step B.out hb)
    clear hb KD B U1 LW
    have KD := nD
    have B := nB
    clear nD nB
  all_goals (
    obtain ⟨e0, e1, e2, e3, e4, e5, e6, e7⟩ := oct_cells KD.out
    go_wp2_with fail
    (with_reducible refine (U2.out _ (Kd.C_below HC.out B.out)).mono ?_)
    rintro e W4 ⟨v, rfl, hR, hb⟩
    obtain ⟨A6, c6, ev, hc6, hC6⟩ := Kd.R_reads hR
    subst ev
    have R6 := Aside0.mk hC6
    have nD := Aside0.mk (blk_below KD.out hb)
    have nB := Aside0.mk (below_step B.out hb)
    clear hb hR hC6 KD B e0 e1 e2 e3 e4 e5 e6 e7
    have KD := nD
    have B := nB
    clear nD nB
    by_cases hue : ue = 0
    case' neg =>
      have u2 : (ue != 0) = true := by simpa using hue
      obtain rfl := UX.out hue
      clear hue
      go_wp2_with fail
      (with_reducible refine (live_calls _).mono ?_)
      rintro e W5 ⟨rfl, hb⟩
      have nB := Aside0.mk (below_step B.out hb)
      clear hb B
      go_wp2
      go_ret
      exact ⟨rfl, nB.out⟩
    case' pos =>
      have u2 : (ue != 0) = false := by simpa using hue
      obtain ⟨x, e1, e2, e3, e4, e5⟩ := UE.out hue
      clear hue
      obtain ⟨x0, x1, x2, x3, x4, x5, x6, x7, rfl⟩ := eight e2.1
      have P2 : Aside0 (∀ w', Kd.C k23 w' A l0.length l0 → (Kd.int .i64).C w' A6 us.length us → Calls Try.prog 26 #[.slice A l0.length cp, .slice A6 us.length c6] w' fun e w'' => e = .returned (.tuple #[.agg (oct x0 x1 x2 x3 x4 x5 x6 x7), .int .i64 (l0.length : Int), .int .i64 0]) ∧ Below w'.heap.size w' w'') := ⟨fun w' h1 h2 => by
        have := PK.out us A6 c6 w' h1 h2 e5
        rw [e1] at this
        exact this⟩
      have BX := Aside0.mk e2
      have GE := Aside0.mk e4
      clear e1 e2 e3 e4 e5
      go_wp2_with fail
      (with_reducible refine (P2.out _ (Kd.C_below HC.out B.out) R6.out).mono ?_)
      rintro e W5 ⟨rfl, hb⟩
      have nD := Aside0.mk (blk_below (blk_below KD.out hb) (below_alloc (Below.refl _ _) (.cells (oct x0 x1 x2 x3 x4 x5 x6 x7) 24)))
      have KX := Aside0.mk (blk_new W5 (.cells (oct x0 x1 x2 x3 x4 x5 x6 x7) 24))
      have nB := Aside0.mk (below_alloc (below_step B.out hb) (.cells (oct x0 x1 x2 x3 x4 x5 x6 x7) 24))
      clear hb KD B R6
      have KD := nD
      have B := nB
      clear nD nB
      go_wp2
      generalize W5.alloc (.cells (oct x0 x1 x2 x3 x4 x5 x6 x7) 24) = W6 at KX KD B ⊢
      generalize W5.heap.size = b16 at KX ⊢
      go_loopg [19] (l0.length + 1) (fun kq v19 w' => ∃ (k : Nat), v19 = .int .i64 (k : Int) ∧ Aside0 (k ≤ l0.length ∧ l0.length < k + kq) ∧ Aside0 (w'.heap[w.heap.size]? = some (.cells (oct d0 d1 d2 d3 d4 d5 d6 d7) 24 (0, 0))) ∧ Aside0 (w'.heap[b16]? = some (.cells (oct x0 x1 x2 x3 x4 x5 x6 x7) 24 (0, 0))) ∧ Aside0 (Below w.heap.size w w'))
      case atStart => exact ⟨0, rfl, ⟨by omega⟩, KD, KX, B⟩
      case round =>
        clear KD KX B
        obtain ⟨k, rfl, HK, KD, KX, B⟩ := hrel
        cases gk with
        | zero => exact absurd HK.out (by omega)
        | succ k1 =>
          have hlL := HL.out
          by_cases hlt : k < l0.length
          · have u4 : decide ((k : Int) < (l0.length : Int)) = true := decide_eq_true (by omega)
            have u4b : decide (k < l0.length) = true := decide_eq_true (by omega)
            have p1 : (0 ≤ (k : Int)) = True := eq_true (by omega)
            have q1 : ((k : Int) < (l0.length : Int)) = True := eq_true (by omega)
            obtain ⟨ad, ea, c0, c1, c2, c3, c4, c5⟩ := at_T23 (Kd.C_below HC.out B.out) (k : Int) (by omega) (by omega)
            cases ea
            have k1' : wrap64 ((k : Int) + 1) = ((k + 1 : Nat) : Int) := by rw [wr_small _ (by omega) (by omega)]; rfl
            have gx := GE.out _ (mem_rd hlt)
            have KL := Aside0.mk hlt
            clear hlt hlL
            generalize rd_T23 l0 (k : Int) = z at c0 c1 c2 c3 c4 c5 gx
            obtain ⟨g0, g1, g2, g3, g4, g5⟩ := z
            dsimp only at c0 c1 c2 c3 c4 c5
            simp only [Int.toNat_natCast] at c0 c1 c2 c3 c4 c5
            have gx : getV [x0, x1, x2, x3, x4, x5, x6, x7] ⟨g0, g1, g2, g3, g4, g5⟩ = getV [d0, d1, d2, d3, d4, d5, d6, d7] ⟨g0, g1, g2, g3, g4, g5⟩ := gx
            have RG2 : Aside0 (∀ w, Calls Try.prog 23 #[.agg (oct d0 d1 d2 d3 d4 d5 d6 d7), .agg #[.int .i64 g0, .int .i64 g1, .bool g2, .bool g3, .int .i64 g4, .int .i64 g5]] w fun e w' => e = .returned (.int .i64 (getV [d0, d1, d2, d3, d4, d5, d6, d7] ⟨g0, g1, g2, g3, g4, g5⟩)) ∧ Below w.heap.size w w') := ⟨fun w => RGet_walk [d0, d1, d2, d3, d4, d5, d6, d7] HD.out ⟨g0, g1, g2, g3, g4, g5⟩ w⟩
            have RG1 : Aside0 (∀ w, Calls Try.prog 23 #[.agg (oct x0 x1 x2 x3 x4 x5 x6 x7), .agg #[.int .i64 g0, .int .i64 g1, .bool g2, .bool g3, .int .i64 g4, .int .i64 g5]] w fun e w' => e = .returned (.int .i64 (getV [d0, d1, d2, d3, d4, d5, d6, d7] ⟨g0, g1, g2, g3, g4, g5⟩)) ∧ Below w.heap.size w w') := ⟨fun w => by rw [← gx]; exact RGet_walk [x0, x1, x2, x3, x4, x5, x6, x7] BX.out ⟨g0, g1, g2, g3, g4, g5⟩ w⟩
            clear gx
            generalize getV [d0, d1, d2, d3, d4, d5, d6, d7] ⟨g0, g1, g2, g3, g4, g5⟩ = gv at RG1 RG2
            have q2 : (gv != gv) = false := by simp
            have Z : Aside0 (Pw ad k g0 g1 g2 g3 g4 g5 x0 x1 x2 x3 x4 x5 x6 x7 d0 d1 d2 d3 d4 d5 d6 d7 w.heap.size b16 w wr) := ⟨⟨KD.out, KX.out, c0, c1, c2, c3, c4, c5, B.out⟩⟩
            clear KD KX B c0 c1 c2 c3 c4 c5
            obtain ⟨f0, f1, f2, f3, f4, f5, f6, f7⟩ := oct_cells Z.out.kx
            obtain ⟨e0, e1, e2, e3, e4, e5, e6, e7⟩ := oct_cells Z.out.kd
            have c0 := Z.out.c0
            have c1 := Z.out.c1
            have c2 := Z.out.c2
            have c3 := Z.out.c3
            have c4 := Z.out.c4
            have c5 := Z.out.c5
            go_wp2
            go_region_held3 (fun w' => w'.cell? ⟨b16, 0, none⟩ = some (.int .u8 x0) ∧ w'.cell? ⟨b16, 1, none⟩ = some (.int .u8 x1) ∧ w'.cell? ⟨b16, 2, none⟩ = some (.int .u8 x2) ∧ w'.cell? ⟨b16, 3, none⟩ = some (.int .u8 x3) ∧ w'.cell? ⟨b16, 4, none⟩ = some (.int .u8 x4) ∧ w'.cell? ⟨b16, 5, none⟩ = some (.int .u8 x5) ∧ w'.cell? ⟨b16, 6, none⟩ = some (.int .u8 x6) ∧ w'.cell? ⟨b16, 7, none⟩ = some (.int .u8 x7) ∧ w'.cell? ⟨w.heap.size, 0, none⟩ = some (.int .u8 d0) ∧ w'.cell? ⟨w.heap.size, 1, none⟩ = some (.int .u8 d1) ∧ w'.cell? ⟨w.heap.size, 2, none⟩ = some (.int .u8 d2) ∧ w'.cell? ⟨w.heap.size, 3, none⟩ = some (.int .u8 d3) ∧ w'.cell? ⟨w.heap.size, 4, none⟩ = some (.int .u8 d4) ∧ w'.cell? ⟨w.heap.size, 5, none⟩ = some (.int .u8 d5) ∧ w'.cell? ⟨w.heap.size, 6, none⟩ = some (.int .u8 d6) ∧ w'.cell? ⟨w.heap.size, 7, none⟩ = some (.int .u8 d7) ∧ w'.cell? (ad.add (k * 6)) = some (.int .i64 g0) ∧ w'.cell? ⟨(ad.add (k * 6)).block, (ad.add (k * 6)).off + 1, none⟩ = some (.int .i64 g1) ∧ w'.cell? ⟨(ad.add (k * 6)).block, (ad.add (k * 6)).off + 2, none⟩ = some (.bool g2) ∧ w'.cell? ⟨(ad.add (k * 6)).block, (ad.add (k * 6)).off + 3, none⟩ = some (.bool g3) ∧ w'.cell? ⟨(ad.add (k * 6)).block, (ad.add (k * 6)).off + 4, none⟩ = some (.int .i64 g4) ∧ w'.cell? ⟨(ad.add (k * 6)).block, (ad.add (k * 6)).off + 5, none⟩ = some (.int .i64 g5)) (go_keep)
              (first
                | (go_at_call 23; (with_reducible refine (RG1.out _).mono ?_); rintro e w5 ⟨rfl, hb⟩; have n0 := Aside0.mk (show Pw ad k g0 g1 g2 g3 g4 g5 x0 x1 x2 x3 x4 x5 x6 x7 d0 d1 d2 d3 d4 d5 d6 d7 w.heap.size b16 w w5 by first | exact Z.out.below hb | exact (Z.out.below (below_drew1 (Below.refl _ _))).below hb); clear hb Z f0 f1 f2 f3 f4 f5 f6 f7 e0 e1 e2 e3 e4 e5 e6 e7 c0 c1 c2 c3 c4 c5; have Z := n0; clear n0; obtain ⟨f0, f1, f2, f3, f4, f5, f6, f7⟩ := oct_cells Z.out.kx; obtain ⟨e0, e1, e2, e3, e4, e5, e6, e7⟩ := oct_cells Z.out.kd; have c0 := Z.out.c0; have c1 := Z.out.c1; have c2 := Z.out.c2; have c3 := Z.out.c3; have c4 := Z.out.c4; have c5 := Z.out.c5)
                | (go_at_call 23; (with_reducible refine (RG2.out _).mono ?_); rintro e w5 ⟨rfl, hb⟩; have n0 := Aside0.mk (show Pw ad k g0 g1 g2 g3 g4 g5 x0 x1 x2 x3 x4 x5 x6 x7 d0 d1 d2 d3 d4 d5 d6 d7 w.heap.size b16 w w5 by first | exact Z.out.below hb | exact (Z.out.below (below_drew1 (Below.refl _ _))).below hb); clear hb Z f0 f1 f2 f3 f4 f5 f6 f7 e0 e1 e2 e3 e4 e5 e6 e7 c0 c1 c2 c3 c4 c5; have Z := n0; clear n0; obtain ⟨f0, f1, f2, f3, f4, f5, f6, f7⟩ := oct_cells Z.out.kx; obtain ⟨e0, e1, e2, e3, e4, e5, e6, e7⟩ := oct_cells Z.out.kd; have c0 := Z.out.c0; have c1 := Z.out.c1; have c2 := Z.out.c2; have c3 := Z.out.c3; have c4 := Z.out.c4; have c5 := Z.out.c5))
            go_wp2
            go_roundg k1
            case rel => exact ⟨k + 1, by first | rfl | rw [k1'], ⟨by have := HK.out; have := KL.out; omega⟩, ⟨Z.out.kd⟩, ⟨Z.out.kx⟩, ⟨Z.out.B⟩⟩
            case measure => omega
          · have u4 : decide ((k : Int) < (l0.length : Int)) = false := decide_eq_false (by omega)
            have u4b : decide (k < l0.length) = false := decide_eq_false (by omega)
            clear hlt hlL
            go_wp2_with fail
            (with_reducible refine (live_calls _).mono ?_)
            rintro e W7 ⟨rfl, hb⟩
            have nB := Aside0.mk (below_step B.out hb)
            clear hb B
            go_wp2
            go_ret
            exact ⟨rfl, nB.out⟩)
set_option maxHeartbeats 40000000 in
set_option maxRecDepth 100000 in
theorem Packs_Cut (l0 l : List S23) (A : Option Addr) (cp : Nat) (wl : List Int) (A2 : Option Addr) (cp2 : Nat) (d0 d1 d2 d3 d4 d5 d6 d7 : Int) (w : World) (hl : l.length = 12) (hl0 : 12 < l0.length) (hcp : l0.length ≤ cp) (hC0 : Kd.C k23 w A 12 l) (hW : (Kd.int .i64).C w A2 wl.length wl) (hc2 : wl.length ≤ cp2) (hS : ∀ x ∈ l, In64 x.f4 ∧ In64 x.f5) (hI : ∀ x ∈ wl, In64 x) (hd : Byts [d0, d1, d2, d3, d4, d5, d6, d7]) :
    Calls Try.prog 6 #[.slice A l0.length cp, .slice A2 wl.length cp2, .agg (oct d0 d1 d2 d3 d4 d5 d6 d7)] w fun e w' => e = .returned (.bool true) ∧ Below w.heap.size w w' := by
  have u1 : decide ((l0.length : Int) > 12) = true := decide_eq_true (by omega)
  have u1b : decide (l0.length > 12) = true := decide_eq_true hl0
  have u1c : decide (12 ≤ cp) = true := decide_eq_true (by omega)
  have p0 : (12 ≤ cp) = True := eq_true (by omega)
  have p0b : ((12 : Int) ≤ (cp : Int)) = True := eq_true (by omega)
  have hu23 := Try.underlying23
  have hu24 := Try.underlying24
  have hu39 := Try.underlying39
  have hu40 := Try.underlying40
  have HL : Aside0 (l.length = 12 ∧ l.length ≤ 12) := ⟨⟨hl, by omega⟩⟩
  have HC : Aside0 (Kd.C k23 w A l.length l) := ⟨by rw [hl]; exact hC0⟩
  have HW := Aside0.mk hW
  have HD := Aside0.mk hd
  have HS := Aside0.mk hS
  have HC2 := Aside0.mk hc2
  have PK : Aside0 (∀ (us : List Int) (A9 : Option Addr) (c9 : Nat) (w' : World), Kd.C k23 w' A l.length l → (Kd.int .i64).C w' A9 us.length us → (∀ x ∈ us, In64 x) → Calls Try.prog 26 #[.slice A 12 cp, .slice A9 us.length c9] w' fun e w'' => e = .returned (.tuple #[.agg (bytesA (packV l us).1), .int .i64 (packV l us).2.1, .int .i64 (packV l us).2.2]) ∧ Below w'.heap.size w' w'') := ⟨fun us A9 c9 w' h1 h2 h3 => by
    have := Pack_walk l A cp us A9 c9 w' h1 h2 hS h3
    rw [hl] at this
    exact this⟩
  have UN : Aside0 (∀ (d : List Int) (w' : World), d.length = 8 → Kd.C k23 w' A l.length l → Calls Try.prog 28 #[.slice A 12 cp, .agg (bytesA d)] w' fun e w'' => ∃ v, e = .returned (.tuple #[v, .int .i64 (unpackV l d).2.1, .int .i64 (unpackV l d).2.2]) ∧ Kd.R (Kd.int .i64) 2 w'' w'.heap.size (fun _ => True) v (unpackV l d).1 ∧ Below w'.heap.size w' w'') := ⟨fun d w' h1 h2 => by
    have := Unpack_walk l A cp d h1 w' h2 hS
    rw [hl] at this
    exact this⟩
  have P1L := packV_len l wl
  have P1E := @pack_unpack l wl
  have P1S := @packV_same l wl
  have P1 := fun w' h1 h2 => PK.out wl A2 cp2 w' h1 h2 hI
  generalize packV l wl = pv at P1L P1E P1S P1
  obtain ⟨y, pn, pe⟩ := pv
  dsimp only at P1L P1E P1S P1
  obtain ⟨y0, y1, y2, y3, y4, y5, y6, y7, rfl⟩ := eight P1L
  have P1 : Aside0 (∀ w', Kd.C k23 w' A l.length l → (Kd.int .i64).C w' A2 wl.length wl → Calls Try.prog 26 #[.slice A 12 cp, .slice A2 wl.length cp2] w' fun e w'' => e = .returned (.tuple #[.agg (oct y0 y1 y2 y3 y4 y5 y6 y7), .int .i64 pn, .int .i64 pe]) ∧ Below w'.heap.size w' w'') := ⟨P1⟩
  have hlL := hl
  have PE := Aside0.mk P1E
  have PS := Aside0.mk P1S
  have U2E := @unpack_pack l [d0, d1, d2, d3, d4, d5, d6, d7]
  have U2X := @unpack_err l [d0, d1, d2, d3, d4, d5, d6, d7]
  have U2 := fun w' h2 => UN.out [d0, d1, d2, d3, d4, d5, d6, d7] w' rfl h2
  generalize unpackV l [d0, d1, d2, d3, d4, d5, d6, d7] = uv at U2E U2X U2
  obtain ⟨us, un, ue⟩ := uv
  dsimp only at U2E U2X U2
  have U2 : Aside0 (∀ w', Kd.C k23 w' A l.length l → Calls Try.prog 28 #[.slice A 12 cp, .agg (oct d0 d1 d2 d3 d4 d5 d6 d7)] w' fun e w'' => ∃ v, e = .returned (.tuple #[v, .int .i64 un, .int .i64 ue]) ∧ Kd.R (Kd.int .i64) 2 w'' w'.heap.size (fun _ => True) v us ∧ Below w'.heap.size w' w'') := ⟨U2⟩
  have UE := Aside0.mk U2E
  have UX := Aside0.mk U2X
  clear P1L P1E P1S U2E U2X hC0 hW hd hS hI hc2 hl hl0 hcp
  have K0 := Aside0.mk (blk_new w (.cells (oct d0 d1 d2 d3 d4 d5 d6 d7) 24))
  have B0 := Aside0.mk (below_alloc (Below.refl w.heap.size w) (.cells (oct d0 d1 d2 d3 d4 d5 d6 d7) 24))
  go_enter Try.func6, Try.ntmps6
  go_wp2_with fail
  (with_reducible refine (P1.out _ (Kd.C_below HC.out B0.out) (Kd.C_below HW.out B0.out)).mono ?_)
  rintro e W1 ⟨rfl, hb⟩
  have KD := Aside0.mk (blk_below (blk_below K0.out hb) (below_alloc (Below.refl _ _) (.cells (oct y0 y1 y2 y3 y4 y5 y6 y7) 24)))
  have KY := Aside0.mk (blk_new W1 (.cells (oct y0 y1 y2 y3 y4 y5 y6 y7) 24))
  have B := Aside0.mk (below_alloc (below_step B0.out hb) (.cells (oct y0 y1 y2 y3 y4 y5 y6 y7) 24))
  clear K0 B0 hb
  obtain ⟨mid, hmid⟩ : ∃ b : Bool, (pe == 0) = b := ⟨_, rfl⟩
  cases mid
  case' true =>
    have hpe : pe = 0 := by simpa using hmid
    have e1 := PE.out hpe
    have sm := PS.out hpe
    have U1 : Aside0 (∀ w', Kd.C k23 w' A l.length l → Calls Try.prog 28 #[.slice A 12 cp, .agg (oct y0 y1 y2 y3 y4 y5 y6 y7)] w' fun e w'' => ∃ v, e = .returned (.tuple #[v, .int .i64 12, .int .i64 0]) ∧ Kd.R (Kd.int .i64) 2 w'' w'.heap.size (fun _ => True) v wl ∧ Below w'.heap.size w' w'') := ⟨fun w' h2 => by
      have := UN.out [y0, y1, y2, y3, y4, y5, y6, y7] w' rfl h2
      rw [e1.1] at this
      rw [hlL] at this
      exact this⟩
    have LW : Aside0 (wl.length ≤ 1000) := ⟨by omega⟩
    have q1 : (12 != 12) = false := by simp
    clear hpe e1 sm
    obtain ⟨y0', y1', y2', y3', y4', y5', y6', y7'⟩ := oct_cells KY.out
    go_wp2_with fail
    (with_reducible refine (U1.out _ (Kd.C_below HC.out B.out)).mono ?_)
    rintro e W2 ⟨v, rfl, hR, hb⟩
    obtain ⟨A5, c5, ev, hc5, hC5⟩ := Kd.R_reads hR
    subst ev
    have R5 := Aside0.mk hC5
    have nD := Aside0.mk (blk_below KD.out hb)
    have nB := Aside0.mk (below_step B.out hb)
    clear hb hR hC5 KD B KY y0' y1' y2' y3' y4' y5' y6' y7'
    have KD := nD
    have B := nB
    clear nD nB
    go_wp2_with fail
    (with_reducible refine (Longs_calls LW.out hc5 HC2.out R5.out (Kd.C_below HW.out B.out)).mono ?_)
    rintro e W3 ⟨rfl, hb⟩
    have nD := Aside0.mk (blk_below KD.out hb)
    have nB := Aside0.mk (below_step B.out hb)
    clear hb KD B U1 LW
    have KD := nD
    have B := nB
    clear nD nB
  all_goals (
    obtain ⟨e0, e1, e2, e3, e4, e5, e6, e7⟩ := oct_cells KD.out
    go_wp2_with fail
    (with_reducible refine (U2.out _ (Kd.C_below HC.out B.out)).mono ?_)
    rintro e W4 ⟨v, rfl, hR, hb⟩
    obtain ⟨A6, c6, ev, hc6, hC6⟩ := Kd.R_reads hR
    subst ev
    have R6 := Aside0.mk hC6
    have nD := Aside0.mk (blk_below KD.out hb)
    have nB := Aside0.mk (below_step B.out hb)
    clear hb hR hC6 KD B e0 e1 e2 e3 e4 e5 e6 e7
    have KD := nD
    have B := nB
    clear nD nB
    by_cases hue : ue = 0
    case' neg =>
      have u2 : (ue != 0) = true := by simpa using hue
      obtain rfl := UX.out hue
      clear hue
      go_wp2_with fail
      (with_reducible refine (live_calls _).mono ?_)
      rintro e W5 ⟨rfl, hb⟩
      have nB := Aside0.mk (below_step B.out hb)
      clear hb B
      go_wp2
      go_ret
      exact ⟨rfl, nB.out⟩
    case' pos =>
      have u2 : (ue != 0) = false := by simpa using hue
      obtain ⟨x, e1, e2, e3, e4, e5⟩ := UE.out hue
      clear hue
      obtain ⟨x0, x1, x2, x3, x4, x5, x6, x7, rfl⟩ := eight e2.1
      have P2 : Aside0 (∀ w', Kd.C k23 w' A l.length l → (Kd.int .i64).C w' A6 us.length us → Calls Try.prog 26 #[.slice A 12 cp, .slice A6 us.length c6] w' fun e w'' => e = .returned (.tuple #[.agg (oct x0 x1 x2 x3 x4 x5 x6 x7), .int .i64 (l.length : Int), .int .i64 0]) ∧ Below w'.heap.size w' w'') := ⟨fun w' h1 h2 => by
        have := PK.out us A6 c6 w' h1 h2 e5
        rw [e1] at this
        exact this⟩
      have BX := Aside0.mk e2
      have GE := Aside0.mk e4
      clear e1 e2 e3 e4 e5
      go_wp2_with fail
      (with_reducible refine (P2.out _ (Kd.C_below HC.out B.out) R6.out).mono ?_)
      rintro e W5 ⟨rfl, hb⟩
      have nD := Aside0.mk (blk_below (blk_below KD.out hb) (below_alloc (Below.refl _ _) (.cells (oct x0 x1 x2 x3 x4 x5 x6 x7) 24)))
      have KX := Aside0.mk (blk_new W5 (.cells (oct x0 x1 x2 x3 x4 x5 x6 x7) 24))
      have nB := Aside0.mk (below_alloc (below_step B.out hb) (.cells (oct x0 x1 x2 x3 x4 x5 x6 x7) 24))
      clear hb KD B R6
      have KD := nD
      have B := nB
      clear nD nB
      go_wp2
      generalize W5.alloc (.cells (oct x0 x1 x2 x3 x4 x5 x6 x7) 24) = W6 at KX KD B ⊢
      generalize W5.heap.size = b16 at KX ⊢
      go_loopg [19] (l.length + 1) (fun kq v19 w' => ∃ (k : Nat), v19 = .int .i64 (k : Int) ∧ Aside0 (k ≤ l.length ∧ l.length < k + kq) ∧ Aside0 (w'.heap[w.heap.size]? = some (.cells (oct d0 d1 d2 d3 d4 d5 d6 d7) 24 (0, 0))) ∧ Aside0 (w'.heap[b16]? = some (.cells (oct x0 x1 x2 x3 x4 x5 x6 x7) 24 (0, 0))) ∧ Aside0 (Below w.heap.size w w'))
      case atStart => exact ⟨0, rfl, ⟨by omega⟩, KD, KX, B⟩
      case round =>
        clear KD KX B
        obtain ⟨k, rfl, HK, KD, KX, B⟩ := hrel
        cases gk with
        | zero => exact absurd HK.out (by omega)
        | succ k1 =>
          have hlL := HL.out
          by_cases hlt : k < l.length
          · have u4 : decide ((k : Int) < 12) = true := decide_eq_true (by omega)
            have u4b : decide (k < 12) = true := decide_eq_true (by omega)
            have p1 : (0 ≤ (k : Int)) = True := eq_true (by omega)
            have q1 : ((k : Int) < 12) = True := eq_true (by omega)
            obtain ⟨ad, ea, c0, c1, c2, c3, c4, c5⟩ := at_T23 (Kd.C_below HC.out B.out) (k : Int) (by omega) (by omega)
            cases ea
            have k1' : wrap64 ((k : Int) + 1) = ((k + 1 : Nat) : Int) := by rw [wr_small _ (by omega) (by omega)]; rfl
            have gx := GE.out _ (mem_rd hlt)
            have KL := Aside0.mk hlt
            clear hlt hlL
            generalize rd_T23 l (k : Int) = z at c0 c1 c2 c3 c4 c5 gx
            obtain ⟨g0, g1, g2, g3, g4, g5⟩ := z
            dsimp only at c0 c1 c2 c3 c4 c5
            simp only [Int.toNat_natCast] at c0 c1 c2 c3 c4 c5
            have gx : getV [x0, x1, x2, x3, x4, x5, x6, x7] ⟨g0, g1, g2, g3, g4, g5⟩ = getV [d0, d1, d2, d3, d4, d5, d6, d7] ⟨g0, g1, g2, g3, g4, g5⟩ := gx
            have RG2 : Aside0 (∀ w, Calls Try.prog 23 #[.agg (oct d0 d1 d2 d3 d4 d5 d6 d7), .agg #[.int .i64 g0, .int .i64 g1, .bool g2, .bool g3, .int .i64 g4, .int .i64 g5]] w fun e w' => e = .returned (.int .i64 (getV [d0, d1, d2, d3, d4, d5, d6, d7] ⟨g0, g1, g2, g3, g4, g5⟩)) ∧ Below w.heap.size w w') := ⟨fun w => RGet_walk [d0, d1, d2, d3, d4, d5, d6, d7] HD.out ⟨g0, g1, g2, g3, g4, g5⟩ w⟩
            have RG1 : Aside0 (∀ w, Calls Try.prog 23 #[.agg (oct x0 x1 x2 x3 x4 x5 x6 x7), .agg #[.int .i64 g0, .int .i64 g1, .bool g2, .bool g3, .int .i64 g4, .int .i64 g5]] w fun e w' => e = .returned (.int .i64 (getV [d0, d1, d2, d3, d4, d5, d6, d7] ⟨g0, g1, g2, g3, g4, g5⟩)) ∧ Below w.heap.size w w') := ⟨fun w => by rw [← gx]; exact RGet_walk [x0, x1, x2, x3, x4, x5, x6, x7] BX.out ⟨g0, g1, g2, g3, g4, g5⟩ w⟩
            clear gx
            generalize getV [d0, d1, d2, d3, d4, d5, d6, d7] ⟨g0, g1, g2, g3, g4, g5⟩ = gv at RG1 RG2
            have q2 : (gv != gv) = false := by simp
            have Z : Aside0 (Pw ad k g0 g1 g2 g3 g4 g5 x0 x1 x2 x3 x4 x5 x6 x7 d0 d1 d2 d3 d4 d5 d6 d7 w.heap.size b16 w wr) := ⟨⟨KD.out, KX.out, c0, c1, c2, c3, c4, c5, B.out⟩⟩
            clear KD KX B c0 c1 c2 c3 c4 c5
            obtain ⟨f0, f1, f2, f3, f4, f5, f6, f7⟩ := oct_cells Z.out.kx
            obtain ⟨e0, e1, e2, e3, e4, e5, e6, e7⟩ := oct_cells Z.out.kd
            have c0 := Z.out.c0
            have c1 := Z.out.c1
            have c2 := Z.out.c2
            have c3 := Z.out.c3
            have c4 := Z.out.c4
            have c5 := Z.out.c5
            go_wp2
            go_region_held3 (fun w' => w'.cell? ⟨b16, 0, none⟩ = some (.int .u8 x0) ∧ w'.cell? ⟨b16, 1, none⟩ = some (.int .u8 x1) ∧ w'.cell? ⟨b16, 2, none⟩ = some (.int .u8 x2) ∧ w'.cell? ⟨b16, 3, none⟩ = some (.int .u8 x3) ∧ w'.cell? ⟨b16, 4, none⟩ = some (.int .u8 x4) ∧ w'.cell? ⟨b16, 5, none⟩ = some (.int .u8 x5) ∧ w'.cell? ⟨b16, 6, none⟩ = some (.int .u8 x6) ∧ w'.cell? ⟨b16, 7, none⟩ = some (.int .u8 x7) ∧ w'.cell? ⟨w.heap.size, 0, none⟩ = some (.int .u8 d0) ∧ w'.cell? ⟨w.heap.size, 1, none⟩ = some (.int .u8 d1) ∧ w'.cell? ⟨w.heap.size, 2, none⟩ = some (.int .u8 d2) ∧ w'.cell? ⟨w.heap.size, 3, none⟩ = some (.int .u8 d3) ∧ w'.cell? ⟨w.heap.size, 4, none⟩ = some (.int .u8 d4) ∧ w'.cell? ⟨w.heap.size, 5, none⟩ = some (.int .u8 d5) ∧ w'.cell? ⟨w.heap.size, 6, none⟩ = some (.int .u8 d6) ∧ w'.cell? ⟨w.heap.size, 7, none⟩ = some (.int .u8 d7) ∧ w'.cell? (ad.add (k * 6)) = some (.int .i64 g0) ∧ w'.cell? ⟨(ad.add (k * 6)).block, (ad.add (k * 6)).off + 1, none⟩ = some (.int .i64 g1) ∧ w'.cell? ⟨(ad.add (k * 6)).block, (ad.add (k * 6)).off + 2, none⟩ = some (.bool g2) ∧ w'.cell? ⟨(ad.add (k * 6)).block, (ad.add (k * 6)).off + 3, none⟩ = some (.bool g3) ∧ w'.cell? ⟨(ad.add (k * 6)).block, (ad.add (k * 6)).off + 4, none⟩ = some (.int .i64 g4) ∧ w'.cell? ⟨(ad.add (k * 6)).block, (ad.add (k * 6)).off + 5, none⟩ = some (.int .i64 g5)) (go_keep)
              (first
                | (go_at_call 23; (with_reducible refine (RG1.out _).mono ?_); rintro e w5 ⟨rfl, hb⟩; have n0 := Aside0.mk (show Pw ad k g0 g1 g2 g3 g4 g5 x0 x1 x2 x3 x4 x5 x6 x7 d0 d1 d2 d3 d4 d5 d6 d7 w.heap.size b16 w w5 by first | exact Z.out.below hb | exact (Z.out.below (below_drew1 (Below.refl _ _))).below hb); clear hb Z f0 f1 f2 f3 f4 f5 f6 f7 e0 e1 e2 e3 e4 e5 e6 e7 c0 c1 c2 c3 c4 c5; have Z := n0; clear n0; obtain ⟨f0, f1, f2, f3, f4, f5, f6, f7⟩ := oct_cells Z.out.kx; obtain ⟨e0, e1, e2, e3, e4, e5, e6, e7⟩ := oct_cells Z.out.kd; have c0 := Z.out.c0; have c1 := Z.out.c1; have c2 := Z.out.c2; have c3 := Z.out.c3; have c4 := Z.out.c4; have c5 := Z.out.c5)
                | (go_at_call 23; (with_reducible refine (RG2.out _).mono ?_); rintro e w5 ⟨rfl, hb⟩; have n0 := Aside0.mk (show Pw ad k g0 g1 g2 g3 g4 g5 x0 x1 x2 x3 x4 x5 x6 x7 d0 d1 d2 d3 d4 d5 d6 d7 w.heap.size b16 w w5 by first | exact Z.out.below hb | exact (Z.out.below (below_drew1 (Below.refl _ _))).below hb); clear hb Z f0 f1 f2 f3 f4 f5 f6 f7 e0 e1 e2 e3 e4 e5 e6 e7 c0 c1 c2 c3 c4 c5; have Z := n0; clear n0; obtain ⟨f0, f1, f2, f3, f4, f5, f6, f7⟩ := oct_cells Z.out.kx; obtain ⟨e0, e1, e2, e3, e4, e5, e6, e7⟩ := oct_cells Z.out.kd; have c0 := Z.out.c0; have c1 := Z.out.c1; have c2 := Z.out.c2; have c3 := Z.out.c3; have c4 := Z.out.c4; have c5 := Z.out.c5))
            go_wp2
            go_roundg k1
            case rel => exact ⟨k + 1, by first | rfl | rw [k1'], ⟨by have := HK.out; have := KL.out; omega⟩, ⟨Z.out.kd⟩, ⟨Z.out.kx⟩, ⟨Z.out.B⟩⟩
            case measure => omega
          · have u4 : decide ((k : Int) < 12) = false := decide_eq_false (by omega)
            have u4b : decide (k < 12) = false := decide_eq_false (by omega)
            clear hlt hlL
            go_wp2_with fail
            (with_reducible refine (live_calls _).mono ?_)
            rintro e W7 ⟨rfl, hb⟩
            have nB := Aside0.mk (below_step B.out hb)
            clear hb B
            go_wp2
            go_ret
            exact ⟨rfl, nB.out⟩)
theorem rows_of {P : Nat → S23 → Prop} : ∀ (n : Nat), (∀ i, i < n → ∃ x, P i x) → ∃ l : List S23, l.length = n ∧ ∀ i x, l[i]? = some x → P i x
  | 0, _ => ⟨[], rfl, fun i x h => by simp at h⟩
  | n + 1, h => by
    obtain ⟨l, hl, hp⟩ := rows_of n (fun i hi => h i (by omega))
    obtain ⟨x, hx⟩ := h n (by omega)
    refine ⟨l ++ [x], by simp [hl], fun i y hy => ?_⟩
    by_cases hi : i < l.length
    · rw [List.getElem?_append_left hi] at hy
      exact hp i y hy
    · rw [List.getElem?_append_right (by omega)] at hy
      have hi2 : i - l.length = 0 := by
        have := (List.getElem?_eq_some_iff.1 hy).1
        simp at this
        omega
      rw [hi2] at hy
      have hy : x = y := by simpa using hy
      subst hy
      rw [show i = n by omega]
      exact hx
/-- A slice of signals in a law's arguments. -/
theorem sigs_of {w : World} {a : Option Addr} {len cap : Nat} (h : (a = none ∧ len = 0 ∧ cap = 0) ∨ ∃ x, a = some x ∧ len ≤ cap ∧ cap ≤ maxLen ∧ ∀ i, i < len → ∃ (z0 : Int) (z1 : Int) (z2 : Bool) (z3 : Bool) (z4 : Int) (z5 : Int), w.cell? (x.add (i * 6 + 0)) = some (.int .i64 z0) ∧ w.cell? (x.add (i * 6 + 1)) = some (.int .i64 z1) ∧ w.cell? (x.add (i * 6 + 2)) = some (.bool z2) ∧ w.cell? (x.add (i * 6 + 3)) = some (.bool z3) ∧ w.cell? (x.add (i * 6 + 4)) = some (.int .i64 z4) ∧ w.cell? (x.add (i * 6 + 5)) = some (.int .i64 z5) ∧ (Lit.int .i64 z0).wf = true ∧ (Lit.int .i64 z1).wf = true ∧ (Lit.int .i64 z4).wf = true ∧ (Lit.int .i64 z5).wf = true) :
    ∃ l : List S23, l.length = len ∧ Kd.C k23 w a len l ∧ (∀ x ∈ l, In64 x.f4 ∧ In64 x.f5) ∧ len ≤ cap := by
  rcases h with ⟨rfl, rfl, rfl⟩ | ⟨x, rfl, hlc, hm, hr⟩
  · exact ⟨[], rfl, ⟨rfl, by decide, fun h => absurd h (by decide)⟩, fun x hx => (nomatch hx), Nat.le_refl _⟩
  · obtain ⟨l, hl, hp⟩ := rows_of (P := fun i z => w.cell? (x.add (i * 6 + 0)) = some (.int .i64 z.f0) ∧ w.cell? (x.add (i * 6 + 1)) = some (.int .i64 z.f1) ∧ w.cell? (x.add (i * 6 + 2)) = some (.bool z.f2) ∧ w.cell? (x.add (i * 6 + 3)) = some (.bool z.f3) ∧ w.cell? (x.add (i * 6 + 4)) = some (.int .i64 z.f4) ∧ w.cell? (x.add (i * 6 + 5)) = some (.int .i64 z.f5) ∧ In64 z.f4 ∧ In64 z.f5) len (fun i hi => by
      obtain ⟨z0, z1, z2, z3, z4, z5, h0, h1, h2, h3, h4, h5, _, _, w4, w5⟩ := hr i hi
      simp only [Lit.wf, Bool.and_eq_true, decide_eq_true_eq] at w4 w5
      exact ⟨⟨z0, z1, z2, z3, z4, z5⟩, h0, h1, h2, h3, h4, h5, w4, w5⟩)
    refine ⟨l, hl, ⟨hl, by simp only [maxLen] at hm; omega, fun _ => ⟨x, rfl, fun j p hj => ?_⟩⟩, fun z hz => ?_, hlc⟩
    · obtain ⟨h0, h1, h2, h3, h4, h5, _, _⟩ := hp j p hj
      refine ⟨_, rfl, k23_mk w p, fun i u hi => ?_⟩
      show w.cell? (x.add (j * 6 + i)) = some u
      match i, hi with
      | 0, hi => rw [h0]; exact hi
      | 1, hi => rw [h1]; exact hi
      | 2, hi => rw [h2]; exact hi
      | 3, hi => rw [h3]; exact hi
      | 4, hi => rw [h4]; exact hi
      | 5, hi => rw [h5]; exact hi
      | n + 6, hi => simp at hi
    · obtain ⟨j, hj⟩ := List.getElem?_of_mem hz
      exact (hp j z hj).2.2.2.2.2.2
theorem byts_of2 {d0 d1 d2 d3 d4 d5 d6 d7 : Int} (h0 : (Lit.int .u8 d0).wf = true) (h1 : (Lit.int .u8 d1).wf = true) (h2 : (Lit.int .u8 d2).wf = true) (h3 : (Lit.int .u8 d3).wf = true) (h4 : (Lit.int .u8 d4).wf = true) (h5 : (Lit.int .u8 d5).wf = true) (h6 : (Lit.int .u8 d6).wf = true) (h7 : (Lit.int .u8 d7).wf = true) : Byts [d0, d1, d2, d3, d4, d5, d6, d7] := by
  simp only [Lit.wf, Bool.and_eq_true, decide_eq_true_eq] at h0 h1 h2 h3 h4 h5 h6 h7
  refine ⟨rfl, fun x hx => ?_⟩
  simp only [List.mem_cons, List.not_mem_nil, or_false] at hx
  rcases hx with rfl | rfl | rfl | rfl | rfl | rfl | rfl | rfl <;> assumption
theorem SignalPacks_walk (a0 : Option Addr) (len0 cap0 : Nat) (a1 : Option Addr) (len1 cap1 : Nat) (z1 : List Int) (a2_0 a2_1 a2_2 a2_3 a2_4 a2_5 a2_6 a2_7 : Int) (w : World) (w0 : (a0 = none ∧ len0 = 0 ∧ cap0 = 0) ∨ ∃ x, a0 = some x ∧ len0 ≤ cap0 ∧ cap0 ≤ maxLen ∧ ∀ i, i < len0 → ∃ (z0 : Int) (z1 : Int) (z2 : Bool) (z3 : Bool) (z4 : Int) (z5 : Int), w.cell? (x.add (i * 6 + 0)) = some (.int .i64 z0) ∧ w.cell? (x.add (i * 6 + 1)) = some (.int .i64 z1) ∧ w.cell? (x.add (i * 6 + 2)) = some (.bool z2) ∧ w.cell? (x.add (i * 6 + 3)) = some (.bool z3) ∧ w.cell? (x.add (i * 6 + 4)) = some (.int .i64 z4) ∧ w.cell? (x.add (i * 6 + 5)) = some (.int .i64 z5) ∧ (Lit.int .i64 z0).wf = true ∧ (Lit.int .i64 z1).wf = true ∧ (Lit.int .i64 z4).wf = true ∧ (Lit.int .i64 z5).wf = true) (w1 : (a1 = none ∧ len1 = 0 ∧ cap1 = 0 ∧ z1 = []) ∨ ∃ x, a1 = some x ∧ len1 ≤ cap1 ∧ cap1 ≤ maxLen ∧ z1.length = cap1 ∧ (∀ i, i < z1.length → w.cell? (x.add i) = some (.int .i64 (z1.getD i 0))) ∧ ∀ n ∈ z1, (Lit.int .i64 n).wf = true) (y1 : len1 * 8 ≤ 140737488351232) (w2_0 : (Lit.int .u8 a2_0).wf = true) (w2_1 : (Lit.int .u8 a2_1).wf = true) (w2_2 : (Lit.int .u8 a2_2).wf = true) (w2_3 : (Lit.int .u8 a2_3).wf = true) (w2_4 : (Lit.int .u8 a2_4).wf = true) (w2_5 : (Lit.int .u8 a2_5).wf = true) (w2_6 : (Lit.int .u8 a2_6).wf = true) (w2_7 : (Lit.int .u8 a2_7).wf = true) :
    Calls Try.prog 6 #[.slice a0 len0 cap0, .slice a1 len1 cap1, .agg #[.int .u8 a2_0, .int .u8 a2_1, .int .u8 a2_2, .int .u8 a2_3, .int .u8 a2_4, .int .u8 a2_5, .int .u8 a2_6, .int .u8 a2_7]] w fun e w' => e = .returned (.bool true) ∧ Below w.heap.size w w' := by
  obtain ⟨l, hl, hC, hS, hcp⟩ := sigs_of w0
  obtain ⟨wl, rfl, hr1, hm1, hw1, hc1⟩ := ReadsInt.ofRowC w1
  have hW : (Kd.int .i64).C w a1 wl.length wl := Kd.C_of_reads (d := (0 : Int)) (h1 := fun _ => rfl) hr1
  have hI : ∀ x ∈ wl, In64 x := fun x hx => by
    have := hw1 x hx
    simp only [Lit.wf, Bool.and_eq_true, decide_eq_true_eq] at this
    exact this
  subst hl
  by_cases h12 : 12 < l.length
  · exact Packs_Cut l (l.take 12) a0 cap0 wl a1 cap1 a2_0 a2_1 a2_2 a2_3 a2_4 a2_5 a2_6 a2_7 w (by rw [List.length_take]; omega) h12 hcp (take_C hC (by omega)) hW hc1 (fun x hx => hS x (List.mem_of_mem_take hx)) hI (byts_of2 w2_0 w2_1 w2_2 w2_3 w2_4 w2_5 w2_6 w2_7)
  · exact Packs_All l l a0 cap0 wl a1 cap1 a2_0 a2_1 a2_2 a2_3 a2_4 a2_5 a2_6 a2_7 w rfl (by omega) hC hW hc1 hS hI (byts_of2 w2_0 w2_1 w2_2 w2_3 w2_4 w2_5 w2_6 w2_7)
end Go.Proofs.Ytepeihlhokpjjaa.P
