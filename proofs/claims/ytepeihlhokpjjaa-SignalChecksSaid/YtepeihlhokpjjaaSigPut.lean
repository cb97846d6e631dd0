/- What is laid where a signal's bits stand. Conditions: those that each lemma names. -/
import Derived.Test.YtepeihlhokpjjaaSigPure
namespace Go.Proofs.Ytepeihlhokpjjaa.P
open Go.RowKit Go.Proofs.YtepeihlhokpjjaaW.PrintWords Go.Proofs.YtepeihlhokpjjaaW.PrintLast Go.Proofs.YtepeihlhokpjjaaW.PrintMore
set_option linter.unusedVariables false
set_option linter.unusedSimpArgs false
def zeros8 : List Int := [0, 0, 0, 0, 0, 0, 0, 0]
theorem bytesA_size (d : List Int) : (bytesA d).size = d.length := by simp [bytesA]
theorem eight {d : List Int} (h : d.length = 8) : ∃ x0 x1 x2 x3 x4 x5 x6 x7, d = [x0, x1, x2, x3, x4, x5, x6, x7] := by
  match d, h with
  | [x0, x1, x2, x3, x4, x5, x6, x7], _ => exact ⟨x0, x1, x2, x3, x4, x5, x6, x7, rfl⟩
abbrev oct (x0 x1 x2 x3 x4 x5 x6 x7 : Int) : Array Value := #[.int .u8 x0, .int .u8 x1, .int .u8 x2, .int .u8 x3, .int .u8 x4, .int .u8 x5, .int .u8 x6, .int .u8 x7]
theorem oct_cells {w : World} {g : Nat} {x0 x1 x2 x3 x4 x5 x6 x7 : Int} (h : w.heap[g]? = some (.cells (oct x0 x1 x2 x3 x4 x5 x6 x7) 24 (0, 0))) :
    w.cell? ⟨g, 0, none⟩ = some (.int .u8 x0) ∧ w.cell? ⟨g, 1, none⟩ = some (.int .u8 x1) ∧ w.cell? ⟨g, 2, none⟩ = some (.int .u8 x2) ∧ w.cell? ⟨g, 3, none⟩ = some (.int .u8 x3) ∧ w.cell? ⟨g, 4, none⟩ = some (.int .u8 x4) ∧ w.cell? ⟨g, 5, none⟩ = some (.int .u8 x5) ∧ w.cell? ⟨g, 6, none⟩ = some (.int .u8 x6) ∧ w.cell? ⟨g, 7, none⟩ = some (.int .u8 x7) :=
  ⟨(blk_cell h 0).trans rfl, (blk_cell h 1).trans rfl, (blk_cell h 2).trans rfl, (blk_cell h 3).trans rfl, (blk_cell h 4).trans rfl, (blk_cell h 5).trans rfl, (blk_cell h 6).trans rfl, (blk_cell h 7).trans rfl⟩
theorem oct_frozen {w : World} {g : Nat} {cs : Array Value} (h : w.heap[g]? = some (.cells cs 24 (0, 0))) :
    w.frozen? ⟨g, 0, none⟩ = false ∧ w.frozen? ⟨g, 1, none⟩ = false ∧ w.frozen? ⟨g, 2, none⟩ = false ∧ w.frozen? ⟨g, 3, none⟩ = false ∧ w.frozen? ⟨g, 4, none⟩ = false ∧ w.frozen? ⟨g, 5, none⟩ = false ∧ w.frozen? ⟨g, 6, none⟩ = false ∧ w.frozen? ⟨g, 7, none⟩ = false :=
  ⟨blk_frozen h 0, blk_frozen h 1, blk_frozen h 2, blk_frozen h 3, blk_frozen h 4, blk_frozen h 5, blk_frozen h 6, blk_frozen h 7⟩
abbrev setOct (w : World) (g : Nat) (x0 x1 x2 x3 x4 x5 x6 x7 : Int) : World := (((((((w.setCell ⟨g, 0, none⟩ (.int .u8 x0)).setCell ⟨g, 1, none⟩ (.int .u8 x1)).setCell ⟨g, 2, none⟩ (.int .u8 x2)).setCell ⟨g, 3, none⟩ (.int .u8 x3)).setCell ⟨g, 4, none⟩ (.int .u8 x4)).setCell ⟨g, 5, none⟩ (.int .u8 x5)).setCell ⟨g, 6, none⟩ (.int .u8 x6)).setCell ⟨g, 7, none⟩ (.int .u8 x7)
theorem setOct_blk {w : World} {g : Nat} {y0 y1 y2 y3 y4 y5 y6 y7 : Int} (x0 x1 x2 x3 x4 x5 x6 x7 : Int) (h : w.heap[g]? = some (.cells (oct y0 y1 y2 y3 y4 y5 y6 y7) 24 (0, 0))) :
    (setOct w g x0 x1 x2 x3 x4 x5 x6 x7).heap[g]? = some (.cells (oct x0 x1 x2 x3 x4 x5 x6 x7) 24 (0, 0)) := by
  have := blk_set (blk_set (blk_set (blk_set (blk_set (blk_set (blk_set (blk_set h 0 (.int .u8 x0)) 1 (.int .u8 x1)) 2 (.int .u8 x2)) 3 (.int .u8 x3)) 4 (.int .u8 x4)) 5 (.int .u8 x5)) 6 (.int .u8 x6)) 7 (.int .u8 x7)
  simpa using this
theorem setOct_keep {w : World} {g k : Nat} (x0 x1 x2 x3 x4 x5 x6 x7 : Int) (h : k ≠ g) : (setOct w g x0 x1 x2 x3 x4 x5 x6 x7).heap[k]? = w.heap[k]? := by
  simp only [setOct]
  rw [Below.heap_setCell _ _ _ _ h, Below.heap_setCell _ _ _ _ h, Below.heap_setCell _ _ _ _ h, Below.heap_setCell _ _ _ _ h, Below.heap_setCell _ _ _ _ h, Below.heap_setCell _ _ _ _ h, Below.heap_setCell _ _ _ _ h, Below.heap_setCell _ _ _ _ h]
theorem setOct_below {B : Nat} {w0 w : World} {g : Nat} (x0 x1 x2 x3 x4 x5 x6 x7 : Int) (h : Below B w0 w) (hg : B ≤ g) : Below B w0 (setOct w g x0 x1 x2 x3 x4 x5 x6 x7) :=
  (((((((h.setCell (p := ⟨g, 0, none⟩) hg _).setCell (p := ⟨g, 1, none⟩) hg _).setCell (p := ⟨g, 2, none⟩) hg _).setCell (p := ⟨g, 3, none⟩) hg _).setCell (p := ⟨g, 4, none⟩) hg _).setCell (p := ⟨g, 5, none⟩) hg _).setCell (p := ⟨g, 6, none⟩) hg _).setCell (p := ⟨g, 7, none⟩) hg _
theorem bytesA_set (d : List Int) (i : Nat) (x : Int) : (bytesA d).setIfInBounds i (.int .u8 x) = bytesA (d.set i x) := by
  simp [bytesA, List.map_set]
/-- One bit that is put. -/
def bitU (a : Int) : Int := 2 ^ min (IntKind.u64.wrap (Int.tmod a 8)).toNat 8 % 256
def rawBit (raw i : Int) : Bool := Go.bits .and .i64 (raw / 2 ^ min (IntKind.u64.wrap i).toNat 64) 1 != 0
def putS (raw : Int) (d : List Int) (a : Int) (i : Int) : List Int :=
  if rawBit raw i = true then (d.set (Int.tdiv a 8).toNat (Go.bits .andNot .u8 (rd d (Int.tdiv a 8)) (bitU a))).set (Int.tdiv a 8).toNat (Go.bits .or .u8 (Go.bits .andNot .u8 (rd d (Int.tdiv a 8)) (bitU a)) (bitU a))
  else d.set (Int.tdiv a 8).toNat (Go.bits .andNot .u8 (rd d (Int.tdiv a 8)) (bitU a))
def putL (raw : Int) : List Int → Nat → List Int → List Int
  | [], _, d => d
  | a :: r, i, d => putL raw r (i + 1) (putS raw d a (i : Int))
structure Pb (d : List Int) (s : Sg) (b1 b2 b3 : Nat) (w W : World) : Prop where
  kd : W.heap[b1]? = some (.cells (bytesA d) 24 (0, 0))
  ks : W.heap[b2]? = some s.cs
  kr : W.heap[b3]? = some (.cells (oct 0 0 0 0 0 0 0 0) 24 (0, 0))
  l1 : w.heap.size ≤ b1
  l3 : w.heap.size ≤ b3
  n2 : b1 ≠ b2
  n3 : b1 ≠ b3
  B : Below w.heap.size w W
section
variable {d : List Int} {s : Sg} {b1 b2 b3 : Nat} {w W W' : World}
theorem Pb.below (h : Pb d s b1 b2 b3 w W) (hb : Below W.heap.size W W') : Pb d s b1 b2 b3 w W' := ⟨blk_below h.kd hb, blk_below h.ks hb, blk_below h.kr hb, h.l1, h.l3, h.n2, h.n3, below_step h.B hb⟩
end
theorem Pb.put {d : List Int} {s : Sg} {b1 b2 b3 : Nat} {w W : World} (h : Pb d s b1 b2 b3 w W) (i : Nat) (x : Int) : Pb (d.set i x) s b1 b2 b3 w (W.setCell ⟨b1, i, none⟩ (.int .u8 x)) := by
  refine ⟨?_, ?_, ?_, h.l1, h.l3, h.n2, h.n3, h.B.setCell (p := ⟨b1, i, none⟩) h.l1 _⟩
  · have := blk_set h.kd i (.int .u8 x)
    rw [bytesA_set] at this
    exact this
  · exact (Below.heap_setCell _ _ _ _ (Ne.symm h.n2)).trans h.ks
  · exact (Below.heap_setCell _ _ _ _ (Ne.symm h.n3)).trans h.kr
theorem Pb.made (d : List Int) (s : Sg) (w : World) : Pb d s w.heap.size (w.heap.size + 1) (w.heap.size + 1 + 1) w (((w.alloc (.cells (bytesA d) 24)).alloc s.cs).alloc (.cells (oct 0 0 0 0 0 0 0 0) 24)) := by
  have g := Gb.made d s w
  refine ⟨blk_below g.kd (below_alloc (Below.refl _ _) _), blk_below g.ks (below_alloc (Below.refl _ _) _), ?_, by omega, by omega, by omega, by omega, below_alloc g.B _⟩
  have := blk_new ((w.alloc (.cells (bytesA d) 24)).alloc s.cs) (.cells (oct 0 0 0 0 0 0 0 0) 24)
  simpa using this
/-- The bytes behind, and the error. -/
def putV (d : List Int) (s : Sg) (raw : Int) : List Int × Int := if badS s = true then (zeros8, 10) else if fitsV s raw = true then (putL raw (placesV s) 0 d, 0) else (zeros8, 1)
set_option maxHeartbeats 4000000 in
set_option maxRecDepth 100000 in
theorem Put_walk (d : List Int) (hd : d.length = 8) (s : Sg) (raw : Int) (w : World) : Calls Try.prog 8 #[.agg (bytesA d), s.g, .int .i64 raw] w fun e w' => e = .returned (.tuple #[.agg (bytesA (putV d s raw).1), .int .i64 (putV d s raw).2]) ∧ Below w.heap.size w w' := by
  have hu23 := Try.underlying23
  have hu24 := Try.underlying24
  have hu35 := Try.underlying35
  have PC := Aside0.mk (Places_walk s)
  have RC := Aside0.mk (Right_walk s)
  have FC := Aside0.mk (fun w => signal_fits.calls s.st s.ln s.big s.sgn s.sc s.off raw _ w (fits_eq s raw))
  have PR := Aside0.mk (placesV_range s)
  have PL := Aside0.mk (placesV_len s)
  have D8 := Aside0.mk hd
  clear hd
  have PV : Aside0 (putV d s raw = if badS s = true then (zeros8, 10) else if fitsV s raw = true then (putL raw (placesV s) 0 d, 0) else (zeros8, 1)) := ⟨rfl⟩
  generalize putV d s raw = pv at PV ⊢
  generalize badS s = bd at RC PV
  generalize fitsV s raw = fv at FC PV
  generalize placesV s = l at PC PR PL PV
  have Z := Aside0.mk (Pb.made d s w)
  go_enter Try.func8, Try.ntmps8
  go_wp2_with fail
  (with_reducible refine (RC.out _).mono ?_)
  rintro e W ⟨rfl, hb⟩
  have Z2 := Aside0.mk (Z.out.below hb)
  clear Z hb
  have Z := Z2
  clear Z2
  obtain ⟨f0, f1, f2, f3, f4, f5, f6, f7⟩ := oct_frozen Z.out.kr
  obtain ⟨r0, r1, r2, r3, r4, r5, r6, r7⟩ := oct_cells Z.out.kr
  rcases bd with _ | _
  · obtain ⟨c0, c1, c2, c3, c4, c5⟩ := sg_cells Z.out.ks
    go_wp2_with fail
    (with_reducible refine (FC.out _).mono ?_)
    rintro e W2 ⟨rfl, hb⟩
    have Z2 := Aside0.mk (Z.out.below hb)
    clear Z hb f0 f1 f2 f3 f4 f5 f6 f7 r0 r1 r2 r3 r4 r5 r6 r7 c0 c1 c2 c3 c4 c5
    have Z := Z2
    clear Z2
    obtain ⟨f0, f1, f2, f3, f4, f5, f6, f7⟩ := oct_frozen Z.out.kr
    obtain ⟨r0, r1, r2, r3, r4, r5, r6, r7⟩ := oct_cells Z.out.kr
    obtain ⟨c0, c1, c2, c3, c4, c5⟩ := sg_cells Z.out.ks
    rcases fv with _ | _
    · go_wp2
      (try simp only [Exit.inBlock, Exit.then])
      refine bodyPost_ret (results_ct rfl _ _ (w.heap.size + 1 + 1) 24 (oct 0 0 0 0 0 0 0 0) (0, 0) _ rfl (setOct_blk 0 0 0 0 0 0 0 0 Z.out.kr) Try.underlying24 rfl (by kernel_rfl)) rfl ?_
      exact ⟨by rw [PV.out]; rfl, setOct_below _ _ _ _ _ _ _ _ Z.out.B Z.out.l3⟩
    · clear f0 f1 f2 f3 f4 f5 f6 f7 r0 r1 r2 r3 r4 r5 r6 r7
      go_wp2_with fail
      (with_reducible refine (PC.out _).mono ?_)
      rintro e W ⟨v, rfl, hR, _, hb⟩
      have Z2 := Aside0.mk (Z.out.below hb)
      have HR0 := Aside0.mk (Kd.R_types (Kd.R_lower hR Z.out.B.size) Z2.out.kd (by intro q hq; simp [Kd.int, Kd.scalar] at hq; subst hq; decide))
      clear Z hb hR c0 c1 c2 c3 c4 c5
      have Z := Z2
      clear Z2
      obtain ⟨A, cp, ev⟩ := Kd.R_slice HR0.out
      subst ev
      obtain ⟨D, hD⟩ : ∃ D, putL raw l 0 d = D := ⟨_, rfl⟩
      rw [hD] at PV
      have H0 : Aside0 (d.length = 8 ∧ putL raw (l.drop 0) 0 d = D) := ⟨D8.out, hD⟩
      clear hD
      go_wp2
      go_loopg [25] (l.length + 1) (fun kq v25 w' => ∃ (k : Nat) (dc : List Int), v25 = .int .i64 (k : Int) ∧ Aside0 (k ≤ l.length ∧ l.length < k + kq) ∧ Aside0 (dc.length = 8 ∧ putL raw (l.drop k) k dc = D) ∧ Aside0 (Pb dc s w.heap.size (w.heap.size + 1) (w.heap.size + 1 + 1) w w') ∧ Aside0 (Kd.R (Kd.int .i64) 3 w' w.heap.size (fun k => True ∧ k ≠ w.heap.size) (.slice A l.length cp) l))
      case atStart => exact ⟨0, d, rfl, ⟨by omega⟩, H0, Z, HR0⟩
      case round =>
        clear H0 Z HR0
        obtain ⟨k, dc, rfl, HK, HL, Z, HR⟩ := hrel
        cases gk with
        | zero => exact absurd HK.out (by omega)
        | succ k1 =>
          by_cases hlt : k < l.length
          · have u1 : decide ((k : Int) < (l.length : Int)) = true := decide_eq_true (by omega)
            have u1b : decide (k < l.length) = true := decide_eq_true hlt
            have p1 : (0 ≤ (k : Int)) = True := eq_true (by omega)
            have q1 : ((k : Int) < (l.length : Int)) = True := eq_true (by omega)
            obtain ⟨ad, ea, hx⟩ := Kd.at_int (Kd.R_reads' HR.out).2.2 (k : Int) (by omega) (by omega)
            cases ea
            rw [Int.toNat_natCast] at hx
            have hrg := PR.out _ (rd_mem hlt)
            have HL2 : Aside0 (putL raw (l.drop (k + 1)) (k + 1) (putS raw dc (rd l (k : Int)) (k : Int)) = D) := ⟨by
              have := HL.out.2
              rw [drop_rd hlt] at this
              exact this⟩
            generalize rd l (k : Int) = a at hx hrg HL2
            have t1 : 0 ≤ Int.tdiv a 8 ∧ Int.tdiv a 8 < 8 := by rw [Int.tdiv_eq_ediv_of_nonneg hrg.1]; omega
            have hby := bytesA_at Z.out.kd (Int.tdiv a 8) t1.1 (by rw [HL.out.1]; exact t1.2)
            have hfr := blk_frozen Z.out.kd (Int.tdiv a 8).toNat
            have p2 : (0 ≤ Int.tdiv a 8) = True := eq_true t1.1
            have q2 : (Int.tdiv a 8 < 8) = True := eq_true t1.2
            have e8 : wrap64 (Int.tdiv a 8) = Int.tdiv a 8 := wr_small _ (by omega) (by omega)
            have k1' : wrap64 ((k : Int) + 1) = ((k + 1 : Nat) : Int) := by rw [wr_small _ (by omega) (by have := PL.out; omega)]; rfl
            have T1 := Aside0.mk t1
            clear t1 hrg
            by_cases hbt : rawBit raw (k : Int) = true
            · have u5 : (Go.bits .and .i64 (raw / 2 ^ min (IntKind.u64.wrap (k : Int)).toNat 64) 1 != 0) = true := hbt
              have EP : Aside0 (putS raw dc a (k : Int) = _) := ⟨if_pos hbt⟩
              clear hbt
              go_wp2
              go_roundg k1
              case rel => exact ⟨k + 1, _, by rw [k1'], ⟨by have := HK.out; omega⟩, ⟨by rw [List.length_set, List.length_set]; exact HL.out.1, by rw [← HL2.out, EP.out]; rfl⟩, ⟨(Z.out.put _ _).put _ _⟩, ⟨Kd.R_far (Kd.R_far HR.out (fun k h => h.2) _) (fun k h => h.2) _⟩⟩
              case measure => omega
            · have hbf : rawBit raw (k : Int) = false := by simpa using hbt
              have u5 : (Go.bits .and .i64 (raw / 2 ^ min (IntKind.u64.wrap (k : Int)).toNat 64) 1 != 0) = false := hbf
              have EP : Aside0 (putS raw dc a (k : Int) = _) := ⟨if_neg hbt⟩
              clear hbt hbf
              go_wp2
              go_roundg k1
              case rel => exact ⟨k + 1, _, by rw [k1'], ⟨by have := HK.out; omega⟩, ⟨by rw [List.length_set]; exact HL.out.1, by rw [← HL2.out, EP.out]; rfl⟩, ⟨Z.out.put _ _⟩, ⟨Kd.R_far HR.out (fun k h => h.2) _⟩⟩
              case measure => omega
          · have u1 : decide ((k : Int) < (l.length : Int)) = false := decide_eq_false (by omega)
            have u1b : decide (k < l.length) = false := decide_eq_false hlt
            have EN : Aside0 (dc = D) := ⟨by
              have := HL.out.2
              rw [show k = l.length by have := HK.out; omega, List.drop_length] at this
              exact this⟩
            obtain ⟨x0, x1, x2, x3, x4, x5, x6, x7, e8⟩ := eight HL.out.1
            subst e8
            have KD : Aside0 (wr.heap[w.heap.size]? = some (.cells (oct x0 x1 x2 x3 x4 x5 x6 x7) 24 (0, 0))) := ⟨Z.out.kd⟩
            obtain ⟨f0, f1, f2, f3, f4, f5, f6, f7⟩ := oct_frozen Z.out.kr
            obtain ⟨r0, r1, r2, r3, r4, r5, r6, r7⟩ := oct_cells Z.out.kr
            obtain ⟨d0, d1, d2, d3, d4, d5, d6, d7⟩ := oct_cells KD.out
            clear hlt HL
            go_wp2
            (try simp only [Exit.inBlock, Exit.then])
            refine bodyPost_ret (results_ct rfl _ _ (w.heap.size + 1 + 1) 24 (oct x0 x1 x2 x3 x4 x5 x6 x7) (0, 0) _ rfl (setOct_blk x0 x1 x2 x3 x4 x5 x6 x7 Z.out.kr) Try.underlying24 rfl (by kernel_rfl)) rfl ?_
            exact ⟨by rw [PV.out, ← EN.out]; rfl, setOct_below _ _ _ _ _ _ _ _ Z.out.B Z.out.l3⟩
  · go_wp2
    (try simp only [Exit.inBlock, Exit.then])
    refine bodyPost_ret (results_ct rfl _ _ (w.heap.size + 1 + 1) 24 (oct 0 0 0 0 0 0 0 0) (0, 0) _ rfl (setOct_blk 0 0 0 0 0 0 0 0 Z.out.kr) Try.underlying24 rfl (by kernel_rfl)) rfl ?_
    exact ⟨by rw [PV.out]; rfl, setOct_below _ _ _ _ _ _ _ _ Z.out.B Z.out.l3⟩
end Go.Proofs.Ytepeihlhokpjjaa.P
