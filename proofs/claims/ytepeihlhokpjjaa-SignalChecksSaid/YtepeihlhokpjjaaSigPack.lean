/- What several signals are packed to. Conditions: those that each lemma names. -/
import Derived.Test.YtepeihlhokpjjaaSigCheck
import Derived.Test.YtepeihlhokpjjaaSigPut
namespace Go.Proofs.Ytepeihlhokpjjaa.P
open Go.RowKit Go.Proofs.YtepeihlhokpjjaaW.PrintWords Go.Proofs.YtepeihlhokpjjaaW.PrintLast Go.Proofs.YtepeihlhokpjjaaW.PrintMore
set_option linter.unusedVariables false
set_option linter.unusedSimpArgs false
theorem putS_len (raw : Int) (d : List Int) (a i : Int) : (putS raw d a i).length = d.length := by
  unfold putS
  split <;> simp
theorem putL_len (raw : Int) : ∀ (l : List Int) (i : Nat) (d : List Int), (putL raw l i d).length = d.length
  | [], _, _ => rfl
  | a :: r, i, d => by
    show (putL raw r (i + 1) (putS raw d a (i : Int))).length = _
    rw [putL_len, putS_len]
theorem putV_len (d : List Int) (s : Sg) (raw : Int) (h : d.length = 8) : (putV d s raw).1.length = 8 := by
  unfold putV
  split
  · rfl
  · split
    · rw [putL_len]
      exact h
    · rfl
def packL (wl : List Int) : List S23 → Nat → List Int → List Int × Int × Int
  | [], i, d => (d, (i : Int), 0)
  | s :: r, i, d => if (rawV (Sg.of s) (rd wl (i : Int))).2 = true then packL wl r (i + 1) (putV d (Sg.of s) (rawV (Sg.of s) (rd wl (i : Int))).1).1 else (zeros8, (i : Int), 1)
/-- What they are packed to, how many or which one, and the error. -/
def packV (l : List S23) (wl : List Int) : List Int × Int × Int :=
  if (checkV l 8).2 = 0 then (if (wl.length : Int) = (l.length : Int) then packL wl l 0 zeros8 else (zeros8, 0, 2)) else (zeros8, (checkV l 8).1, (checkV l 8).2)
structure Pk (dc : List Int) (b4 b9 : Nat) (w W : World) : Prop where
  kr : W.heap[b4]? = some (.cells (oct 0 0 0 0 0 0 0 0) 24 (0, 0))
  kd : W.heap[b9]? = some (.cells (bytesA dc) 24 (0, 0))
  l4 : w.heap.size ≤ b4
  l9 : w.heap.size ≤ b9
  n : b4 ≠ b9
  B : Below w.heap.size w W
theorem Pk.below {dc : List Int} {b4 b9 : Nat} {w W W' : World} (h : Pk dc b4 b9 w W) (hb : Below W.heap.size W W') : Pk dc b4 b9 w W' := ⟨blk_below h.kr hb, blk_below h.kd hb, h.l4, h.l9, h.n, below_step h.B hb⟩
theorem Pk.set {x0 x1 x2 x3 x4 x5 x6 x7 : Int} {b4 b9 : Nat} {w W : World} (h : Pk [x0, x1, x2, x3, x4, x5, x6, x7] b4 b9 w W) (y0 y1 y2 y3 y4 y5 y6 y7 : Int) : Pk [y0, y1, y2, y3, y4, y5, y6, y7] b4 b9 w (setOct W b9 y0 y1 y2 y3 y4 y5 y6 y7) :=
  ⟨(setOct_keep _ _ _ _ _ _ _ _ h.n).trans h.kr, setOct_blk (y0 := x0) (y1 := x1) (y2 := x2) (y3 := x3) (y4 := x4) (y5 := x5) (y6 := x6) (y7 := x7) _ _ _ _ _ _ _ _ h.kd, h.l4, h.l9, h.n, setOct_below _ _ _ _ _ _ _ _ h.B h.l9⟩
set_option maxHeartbeats 8000000 in
set_option maxRecDepth 100000 in
theorem Pack_walk (l : List S23) (A : Option Addr) (cp : Nat) (wl : List Int) (A2 : Option Addr) (cp2 : Nat) (w : World) (hC : Kd.C k23 w A l.length l) (hW : (Kd.int .i64).C w A2 wl.length wl) (hS : ∀ x ∈ l, In64 x.f4 ∧ In64 x.f5) (hI : ∀ x ∈ wl, In64 x) :
    Calls Try.prog 26 #[.slice A l.length cp, .slice A2 wl.length cp2] w fun e w' => e = .returned (.tuple #[.agg (bytesA (packV l wl).1), .int .i64 (packV l wl).2.1, .int .i64 (packV l wl).2.2]) ∧ Below w.heap.size w w' := by
  have hu23 := Try.underlying23
  have hu24 := Try.underlying24
  have hu39 := Try.underlying39
  have hu40 := Try.underlying40
  have HC := Aside0.mk hC
  have HW := Aside0.mk hW
  have HS := Aside0.mk hS
  have HI := Aside0.mk hI
  clear hC hW hS hI
  have PV : Aside0 (packV l wl = if (checkV l 8).2 = 0 then (if (wl.length : Int) = (l.length : Int) then packL wl l 0 zeros8 else (zeros8, 0, 2)) else (zeros8, (checkV l 8).1, (checkV l 8).2)) := ⟨rfl⟩
  generalize packV l wl = pv at PV ⊢
  have CC := Aside0.mk (fun w' h => Check_walk l A cp 8 w' h)
  have L64 : Aside0 ((checkV l 8).2 = 0 → l.length ≤ 64) := ⟨fun h => by
    unfold checkV at h
    split at h
    · cases h
    · omega⟩
  generalize checkV l 8 = cv at CC PV L64
  obtain ⟨c1, c2⟩ := cv
  dsimp only at CC PV L64
  have K0 : Aside0 (∀ o : Obj, (w.alloc o).heap[w.heap.size]? = some o ∧ Below w.heap.size w (w.alloc o)) := ⟨fun o => ⟨blk_new _ _, below_alloc (Below.refl _ _) _⟩⟩
  go_enter Try.func26, Try.ntmps26
  go_wp2_with fail
  (with_reducible refine (CC.out _ (Kd.C_below HC.out (K0.out _).2)).mono ?_)
  rintro e W ⟨rfl, hb⟩
  have KR := Aside0.mk (blk_below (K0.out _).1 hb)
  have B1 := Aside0.mk (below_step (K0.out _).2 hb)
  clear hb K0
  obtain ⟨f0, f1, f2, f3, f4, f5, f6, f7⟩ := oct_frozen KR.out
  obtain ⟨r0, r1, r2, r3, r4, r5, r6, r7⟩ := oct_cells KR.out
  by_cases hc : c2 = 0
  · have u1 : (c2 != 0) = false := by simpa using hc
    have EC := PV.out.trans (if_pos hc)
    have L6 := Aside0.mk (L64.out hc)
    clear PV hc L64
    by_cases hl : (wl.length : Int) = (l.length : Int)
    · have u2 : ((wl.length : Int) != (l.length : Int)) = false := by simpa using hl
      have ED := Aside0.mk (EC.trans (if_pos hl))
      have LE : Aside0 (wl.length = l.length) := ⟨by omega⟩
      clear EC hl
      clear f0 f1 f2 f3 f4 f5 f6 f7 r0 r1 r2 r3 r4 r5 r6 r7
      have KZ : Aside0 (Pk zeros8 w.heap.size W.heap.size w (W.alloc (.cells (oct 0 0 0 0 0 0 0 0) 24))) := ⟨⟨blk_below KR.out (below_alloc (Below.refl _ _) _), blk_new _ _, Nat.le_refl _, B1.out.size, by have := blk_lt KR.out; omega, below_alloc B1.out _⟩⟩
      have HE : Aside0 (zeros8.length = 8 ∧ packL wl (l.drop 0) 0 zeros8 = pv) := ⟨rfl, ED.out.symm⟩
      go_wp2
      go_loopg [32] (l.length + 1) (fun kq v32 w' => ∃ (k : Nat) (dc : List Int), v32 = .int .i64 (k : Int) ∧ Aside0 (k ≤ l.length ∧ l.length < k + kq) ∧ Aside0 (dc.length = 8 ∧ packL wl (l.drop k) k dc = pv) ∧ Aside0 (Pk dc w.heap.size W.heap.size w w'))
      case atStart => exact ⟨0, zeros8, rfl, ⟨by omega⟩, HE, KZ⟩
      case round =>
        clear HE KZ B1 KR
        obtain ⟨k, dc, rfl, HK, HL, Z⟩ := hrel
        cases gk with
        | zero => exact absurd HK.out (by omega)
        | succ k1 =>
          by_cases hlt : k < l.length
          · have u4 : decide ((k : Int) < (l.length : Int)) = true := decide_eq_true (by omega)
            have u4b : decide (k < l.length) = true := decide_eq_true hlt
            have p1 : (0 ≤ (k : Int)) = True := eq_true (by omega)
            have q1 : ((k : Int) < (l.length : Int)) = True := eq_true (by omega)
            have q1b : ((k : Int) < (wl.length : Int)) = True := eq_true (by have := LE.out; omega)
            obtain ⟨ad, ea, x0, x1, x2, x3, x4, x5⟩ := at_T23 (Kd.C_below HC.out Z.out.B) (k : Int) (by omega) (by omega)
            cases ea
            obtain ⟨ad2, ea, y0⟩ := Kd.at_int (Kd.C_below HW.out Z.out.B) (k : Int) (by omega) (by have := LE.out; omega)
            cases ea
            have k1' : wrap64 ((k : Int) + 1) = ((k + 1 : Nat) : Int) := by rw [wr_small _ (by omega) (by have := L6.out; omega)]; rfl
            have HD : Aside0 (packL wl (rd_T23 l (k : Int) :: l.drop (k + 1)) k dc = pv) := ⟨by rw [← drop_T23 hlt]; exact HL.out.2⟩
            have TL := Aside0.mk HL.out.1
            have KL := Aside0.mk hlt
            have hsx := HS.out (rd_T23 l (k : Int)) (by
              have : rd_T23 l (k : Int) = l[k] := by simp [rd_T23, hlt]
              rw [this]
              exact List.getElem_mem hlt)
            have hix := HI.out (rd wl (k : Int)) (rd_mem (by have := LE.out; omega))
            clear hlt HL
            generalize rd_T23 l (k : Int) = x at x0 x1 x2 x3 x4 x5 HD hsx
            obtain ⟨g0, g1, g2, g3, g4, g5⟩ := x
            dsimp only at x0 x1 x2 x3 x4 x5 hsx
            simp only [Int.toNat_natCast] at x0 x1 x2 x3 x4 x5 y0
            have HD2 : Aside0 ((if (rawV ⟨g0, g1, g2, g3, g4, g5⟩ (rd wl (k : Int))).2 = true then packL wl (l.drop (k + 1)) (k + 1) (putV dc ⟨g0, g1, g2, g3, g4, g5⟩ (rawV ⟨g0, g1, g2, g3, g4, g5⟩ (rd wl (k : Int))).1).1 else (zeros8, (k : Int), 1)) = pv) := ⟨HD.out⟩
            clear HD
            generalize rd wl (k : Int) = y at y0 HD2 hix
            have RC := Aside0.mk (fun w => Raw_walk ⟨g0, g1, g2, g3, g4, g5⟩ hix hsx.1 hsx.2 w)
            have PT := Aside0.mk (fun raw w => Put_walk dc TL.out ⟨g0, g1, g2, g3, g4, g5⟩ raw w)
            have PTL := Aside0.mk (fun raw => putV_len dc ⟨g0, g1, g2, g3, g4, g5⟩ raw TL.out)
            clear hsx hix
            generalize rawV ⟨g0, g1, g2, g3, g4, g5⟩ y = rv at RC HD2
            obtain ⟨r, ok⟩ := rv
            dsimp only at RC HD2
            have XB := Aside0.mk (blk_new wr (.cells #[.int .i64 g0, .int .i64 g1, .bool g2, .bool g3, .int .i64 g4, .int .i64 g5] 23))
            have Z1 := Aside0.mk (Z.out.below (below_alloc (Below.refl _ _) (.cells #[.int .i64 g0, .int .i64 g1, .bool g2, .bool g3, .int .i64 g4, .int .i64 g5] 23)))
            have y1 : (wr.alloc (.cells #[.int .i64 g0, .int .i64 g1, .bool g2, .bool g3, .int .i64 g4, .int .i64 g5] 23)).cell? (ad2.add k) = some (.int .i64 y) := (World.cell?_alloc_lt _ _ _ (World.block_lt_of_cell? wr _ y0)).trans y0
            clear Z y0
            go_wp2_with fail
            generalize wr.alloc (.cells #[.int .i64 g0, .int .i64 g1, .bool g2, .bool g3, .int .i64 g4, .int .i64 g5] 23) = W1 at XB Z1 y1 ⊢
            generalize wr.heap.size = b11 at XB ⊢
            have X := XB
            have Z := Z1
            clear XB Z1 x0 x1 x2 x3 x4 x5
            obtain ⟨x0, x1, x2, x3, x4, x5⟩ := sg_cells (s := ⟨g0, g1, g2, g3, g4, g5⟩) X.out
            dsimp only at x0 x1 x2 x3 x4 x5
            go_region_held3 (fun w' => w'.cell? ⟨b11, 0, none⟩ = some (.int .i64 g0) ∧ w'.cell? ⟨b11, 1, none⟩ = some (.int .i64 g1) ∧ w'.cell? ⟨b11, 2, none⟩ = some (.bool g2) ∧ w'.cell? ⟨b11, 3, none⟩ = some (.bool g3) ∧ w'.cell? ⟨b11, 4, none⟩ = some (.int .i64 g4) ∧ w'.cell? ⟨b11, 5, none⟩ = some (.int .i64 g5) ∧ w'.cell? (ad2.add k) = some (.int .i64 y)) (go_keep)
              (first
                | (go_at_call 14; (with_reducible refine (RC.out _).mono ?_); rintro e w5 ⟨rfl, hb⟩; have n0 := Aside0.mk (show Pk dc w.heap.size W.heap.size w w5 by first | exact Z.out.below hb | exact (Z.out.below (below_drew1 (Below.refl _ _))).below hb); have n1 := Aside0.mk (show w5.heap[b11]? = some (.cells #[.int .i64 g0, .int .i64 g1, .bool g2, .bool g3, .int .i64 g4, .int .i64 g5] 23 (0, 0)) by first | exact blk_below X.out hb | exact blk_below (blk_below X.out (below_drew1 (Below.refl _ _))) hb); have n2 : w5.cell? (ad2.add k) = some (.int .i64 y) := (by first | exact (hb.cell (World.block_lt_of_cell? _ _ y1)).trans y1 | exact (((below_drew1 (Below.refl _ _)).cell (World.block_lt_of_cell? _ _ y1)).trans ((hb.cell (World.block_lt_of_cell? _ _ y1)).trans y1))); clear hb Z X y1 x0 x1 x2 x3 x4 x5; have Z := n0; have X := n1; have y1 := n2; clear n0 n1 n2; obtain ⟨x0, x1, x2, x3, x4, x5⟩ := sg_cells (s := ⟨g0, g1, g2, g3, g4, g5⟩) X.out; dsimp only at x0 x1 x2 x3 x4 x5))
            cases ok
            · obtain ⟨f0, f1, f2, f3, f4, f5, f6, f7⟩ := oct_frozen Z.out.kr
              obtain ⟨r0, r1, r2, r3, r4, r5, r6, r7⟩ := oct_cells Z.out.kr
              go_wp2
              (try simp only [Exit.inBlock, Exit.then])
              refine bodyPost_ret (results_ctt rfl _ _ w.heap.size 24 (oct 0 0 0 0 0 0 0 0) (0, 0) _ rfl (setOct_blk 0 0 0 0 0 0 0 0 Z.out.kr) Try.underlying24 rfl (by kernel_rfl)) rfl ?_
              exact ⟨by rw [← HD2.out]; rfl, setOct_below _ _ _ _ _ _ _ _ Z.out.B (Nat.le_refl _)⟩
            · obtain ⟨v0, v1, v2, v3, v4, v5, v6, v7, ey⟩ := eight (PTL.out r)
              obtain ⟨z0, z1, z2, z3, z4, z5, z6, z7, e8⟩ := eight TL.out
              subst e8
              obtain ⟨er, hER⟩ : ∃ er, (putV [z0, z1, z2, z3, z4, z5, z6, z7] ⟨g0, g1, g2, g3, g4, g5⟩ r).2 = er := ⟨_, rfl⟩
              have PT2 : Aside0 (∀ w, Calls Try.prog 8 #[.agg (oct z0 z1 z2 z3 z4 z5 z6 z7), .agg #[.int .i64 g0, .int .i64 g1, .bool g2, .bool g3, .int .i64 g4, .int .i64 g5], .int .i64 r] w fun e w' => e = .returned (.tuple #[.agg (oct v0 v1 v2 v3 v4 v5 v6 v7), .int .i64 er]) ∧ Below w.heap.size w w') := ⟨fun w => by
                have := PT.out r w
                rw [ey, hER] at this
                exact this⟩
              have HD3 : Aside0 (packL wl (l.drop (k + 1)) (k + 1) [v0, v1, v2, v3, v4, v5, v6, v7] = pv) := ⟨by rw [← ey]; exact HD2.out⟩
              clear HD2 PT hER ey
              have KD : Aside0 (w5.heap[W.heap.size]? = some (.cells (oct z0 z1 z2 z3 z4 z5 z6 z7) 24 (0, 0))) := ⟨Z.out.kd⟩
              obtain ⟨d0, d1, d2, d3, d4, d5, d6, d7⟩ := oct_cells KD.out
              go_wp2_with fail
              (with_reducible refine (PT2.out _).mono ?_)
              rintro e w6 ⟨rfl, hb⟩
              have Z6 := Aside0.mk (Z.out.below hb)
              clear hb d0 d1 d2 d3 d4 d5 d6 d7 x0 x1 x2 x3 x4 x5 y1
              obtain ⟨f0, f1, f2, f3, f4, f5, f6, f7⟩ := oct_frozen Z6.out.kd
              have KD : Aside0 (w6.heap[W.heap.size]? = some (.cells (oct z0 z1 z2 z3 z4 z5 z6 z7) 24 (0, 0))) := ⟨Z6.out.kd⟩
              obtain ⟨d0, d1, d2, d3, d4, d5, d6, d7⟩ := oct_cells KD.out
              go_wp2
              go_roundg k1
              case rel => exact ⟨k + 1, _, by rw [k1'], ⟨by have := HK.out; have := KL.out; omega⟩, ⟨rfl, HD3.out⟩, ⟨Z6.out.set _ _ _ _ _ _ _ _⟩⟩
              case measure => omega
          · have u4 : decide ((k : Int) < (l.length : Int)) = false := decide_eq_false (by omega)
            have u4b : decide (k < l.length) = false := decide_eq_false hlt
            have EN : Aside0 (pv = (dc, ((l.length : Int)), 0)) := ⟨by
              have := HL.out.2
              rw [show k = l.length by have := HK.out; omega, List.drop_length] at this
              exact this.symm⟩
            obtain ⟨z0, z1, z2, z3, z4, z5, z6, z7, e8⟩ := eight HL.out.1
            subst e8
            have KD : Aside0 (wr.heap[W.heap.size]? = some (.cells (oct z0 z1 z2 z3 z4 z5 z6 z7) 24 (0, 0))) := ⟨Z.out.kd⟩
            obtain ⟨f0, f1, f2, f3, f4, f5, f6, f7⟩ := oct_frozen Z.out.kr
            obtain ⟨r0, r1, r2, r3, r4, r5, r6, r7⟩ := oct_cells Z.out.kr
            obtain ⟨d0, d1, d2, d3, d4, d5, d6, d7⟩ := oct_cells KD.out
            clear hlt HL
            go_wp2
            (try simp only [Exit.inBlock, Exit.then])
            refine bodyPost_ret (results_ctt rfl _ _ w.heap.size 24 (oct z0 z1 z2 z3 z4 z5 z6 z7) (0, 0) _ rfl (setOct_blk z0 z1 z2 z3 z4 z5 z6 z7 Z.out.kr) Try.underlying24 rfl (by kernel_rfl)) rfl ?_
            exact ⟨by rw [EN.out]; rfl, setOct_below _ _ _ _ _ _ _ _ Z.out.B (Nat.le_refl _)⟩
    · have u2 : ((wl.length : Int) != (l.length : Int)) = true := by simpa using hl
      have ED := Aside0.mk (EC.trans (if_neg hl))
      clear EC hl
      go_wp2
      (try simp only [Exit.inBlock, Exit.then])
      refine bodyPost_ret (results_ctt rfl _ _ w.heap.size 24 (oct 0 0 0 0 0 0 0 0) (0, 0) _ rfl (setOct_blk 0 0 0 0 0 0 0 0 KR.out) Try.underlying24 rfl (by kernel_rfl)) rfl ?_
      exact ⟨by rw [ED.out]; rfl, setOct_below _ _ _ _ _ _ _ _ B1.out (Nat.le_refl _)⟩
  · have u1 : (c2 != 0) = true := by simpa using hc
    have EC := Aside0.mk (PV.out.trans (if_neg hc))
    clear PV hc L64
    go_wp2
    (try simp only [Exit.inBlock, Exit.then])
    refine bodyPost_ret (results_ctt rfl _ _ w.heap.size 24 (oct 0 0 0 0 0 0 0 0) (0, 0) _ rfl (setOct_blk 0 0 0 0 0 0 0 0 KR.out) Try.underlying24 rfl (by kernel_rfl)) rfl ?_
    exact ⟨by rw [EC.out]; rfl, setOct_below _ _ _ _ _ _ _ _ B1.out (Nat.le_refl _)⟩
end Go.Proofs.Ytepeihlhokpjjaa.P
