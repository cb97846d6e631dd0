/- What several signals are packed to and unpacked to, by the document. Conditions: those that each lemma names. -/
import Derived.Test.YtepeihlhokpjjaaSigRCheck
import Derived.Test.YtepeihlhokpjjaaSigRPut
import Derived.ChangeKeysEq
namespace Go.Proofs.Ytepeihlhokpjjaa.P
open Go.RowKit Go.Proofs.YtepeihlhokpjjaaW.PrintWords Go.Proofs.YtepeihlhokpjjaaW.PrintLast Go.Proofs.YtepeihlhokpjjaaW.PrintMore
set_option linter.unusedVariables false
set_option linter.unusedSimpArgs false
theorem eqO (y0 y1 y2 y3 y4 y5 y6 y7 : Int) (w : World) : (binOp .eql 24 (.agg (oct y0 y1 y2 y3 y4 y5 y6 y7)) (.agg (oct y0 y1 y2 y3 y4 y5 y6 y7))).run Try.prog w = .ok (.bool true) w := by
  have e := run_equalIn_array (P := Try.prog) w 9999 (oct y0 y1 y2 y3 y4 y5 y6 y7) (oct y0 y1 y2 y3 y4 y5 y6 y7) Try.underlying24 (i := Try.t5) rfl
  rw [show List.range 8 = [0, 1, 2, 3, 4, 5, 6, 7] from rfl, show Try.prog.cellsOf 5 = 1 by kernel_rfl] at e
  simp only [binOp]
  simp [Op.equal, Op.maxDepth, e, Op.eqItems, go_sem]
theorem RWorth_walk (s : Sg) {raw : Int} (h1 : In64 raw) (h2 : In64 s.sc) (h3 : In64 s.off) (w : World) : Calls Try.prog 13 #[s.g, .int .i64 raw] w fun e w' => e = .returned (.tuple #[.int .i64 (worthV s raw).1, .bool (worthV s raw).2]) ∧ Below w.heap.size w w' := bellbuoyref37_Worth.calls 198 _ _ _ _ _ _ _ (worthV s raw).1 (worthV s raw).2 w (RWorth_eq s h1 h2 h3)
theorem RRaw_walk (s : Sg) {x : Int} (h1 : In64 x) (h2 : In64 s.sc) (h3 : In64 s.off) (w : World) : Calls Try.prog 15 #[s.g, .int .i64 x] w fun e w' => e = .returned (.tuple #[.int .i64 (rawV s x).1, .bool (rawV s x).2]) ∧ Below w.heap.size w w' := by
  obtain ⟨k, hk⟩ := RRaw_eq s h1 h2 h3
  exact bellbuoyref37_Raw.calls k _ _ _ _ _ _ _ (rawV s x).1 (rawV s x).2 w hk
set_option maxHeartbeats 8000000 in
set_option maxRecDepth 100000 in
theorem RPack_walk (l : List S23) (A : Option Addr) (cp : Nat) (wl : List Int) (A2 : Option Addr) (cp2 : Nat) (w : World) (hC : Kd.C k23 w A l.length l) (hcp : l.length ≤ cp) (hW : (Kd.int .i64).C w A2 wl.length wl) (hS : ∀ x ∈ l, In64 x.f4 ∧ In64 x.f5) (hI : ∀ x ∈ wl, In64 x) :
    Calls Try.prog 27 #[.slice A l.length cp, .slice A2 wl.length cp2] w fun e w' => e = .returned (.tuple #[.agg (bytesA (packV l wl).1), .int .i64 (packV l wl).2.1, .int .i64 (packV l wl).2.2]) ∧ Below w.heap.size w w' := by
  have hu23 := Try.underlying23
  have hu24 := Try.underlying24
  have hu39 := Try.underlying39
  have hu40 := Try.underlying40
  have HC := Aside0.mk hC
  have HW := Aside0.mk hW
  have HS := Aside0.mk hS
  have HI := Aside0.mk hI
  clear hC hW hS hI
  have PV : Aside0 (packV l wl = if (checkV l 8).2 = 0 then (if (wl.length : Int) = (l.length : Int) then packL wl l 0 zeros8 else (zeros8, 0, 2)) else (zeros8, (checkV l 8).1, (checkV l 8).2)) := ⟨rfl⟩
  generalize packV l wl = pv at PV ⊢
  have CC := Aside0.mk (fun w' h => RCheck_walk l A cp 8 w' h hcp)
  have L64 : Aside0 ((checkV l 8).2 = 0 → l.length ≤ 64) := ⟨fun h => by
    unfold checkV at h
    split at h
    · cases h
    · omega⟩
  generalize checkV l 8 = cv at CC PV L64
  obtain ⟨c1, c2⟩ := cv
  dsimp only at CC PV L64
  have K0 : Aside0 (∀ o : Obj, (w.alloc o).heap[w.heap.size]? = some o ∧ Below w.heap.size w (w.alloc o)) := ⟨fun o => ⟨blk_new _ _, below_alloc (Below.refl _ _) _⟩⟩
  go_enter Try.func27, Try.ntmps27
  go_wp2_with fail
  (with_reducible refine (CC.out _ (Kd.C_below HC.out (K0.out _).2)).mono ?_)
  rintro e W ⟨rfl, hb⟩
  have KR := Aside0.mk (blk_below (K0.out _).1 hb)
  have B1 := Aside0.mk (below_step (K0.out _).2 hb)
  clear hb K0
  obtain ⟨f0, f1, f2, f3, f4, f5, f6, f7⟩ := oct_frozen KR.out
  obtain ⟨r0, r1, r2, r3, r4, r5, r6, r7⟩ := oct_cells KR.out
  by_cases hc : c2 = 0
  · have u1 : (c2 != 0) = false := by simpa using hc
    have EC := PV.out.trans (if_pos hc)
    have L6 := Aside0.mk (L64.out hc)
    clear PV hc L64
    by_cases hl : (wl.length : Int) = (l.length : Int)
    · have u2 : ((wl.length : Int) != (l.length : Int)) = false := by simpa using hl
      have ED := Aside0.mk (EC.trans (if_pos hl))
      have LE : Aside0 (wl.length = l.length) := ⟨by omega⟩
      clear EC hl
      clear f0 f1 f2 f3 f4 f5 f6 f7 r0 r1 r2 r3 r4 r5 r6 r7
      have KZ : Aside0 (Pk zeros8 w.heap.size W.heap.size w (W.alloc (.cells (oct 0 0 0 0 0 0 0 0) 24))) := ⟨⟨blk_below KR.out (below_alloc (Below.refl _ _) _), blk_new _ _, Nat.le_refl _, B1.out.size, by have := blk_lt KR.out; omega, below_alloc B1.out _⟩⟩
      have HE : Aside0 (Byts zeros8 ∧ packL wl (l.drop 0) 0 zeros8 = pv) := ⟨zeros_byts, ED.out.symm⟩
      go_wp2
      go_loopg [10] (l.length + 1) (fun kq v10 w' => ∃ (k : Nat) (dc : List Int), v10 = .int .i64 (k : Int) ∧ Aside0 (k ≤ l.length ∧ l.length < k + kq) ∧ Aside0 (Byts dc ∧ packL wl (l.drop k) k dc = pv) ∧ Aside0 (Pk dc w.heap.size W.heap.size w w'))
      case atStart => exact ⟨0, zeros8, rfl, ⟨by omega⟩, HE, KZ⟩
      case round =>
        clear HE KZ B1 KR
        obtain ⟨k, dc, rfl, HK, HL, Z⟩ := hrel
        cases gk with
        | zero => exact absurd HK.out (by omega)
        | succ k1 =>
          by_cases hlt : k < l.length
          · have u4 : decide ((k : Int) < (l.length : Int)) = true := decide_eq_true (by omega)
            have u4b : decide (k < l.length) = true := decide_eq_true hlt
            have p1 : (0 ≤ (k : Int)) = True := eq_true (by omega)
            have q1 : ((k : Int) < (l.length : Int)) = True := eq_true (by omega)
            have q1b : ((k : Int) < (wl.length : Int)) = True := eq_true (by have := LE.out; omega)
            obtain ⟨ad, ea, x0, x1, x2, x3, x4, x5⟩ := at_T23 (Kd.C_below HC.out Z.out.B) (k : Int) (by omega) (by omega)
            cases ea
            obtain ⟨ad2, ea, y0⟩ := Kd.at_int (Kd.C_below HW.out Z.out.B) (k : Int) (by omega) (by have := LE.out; omega)
            cases ea
            have k1' : wrap64 ((k : Int) + 1) = ((k + 1 : Nat) : Int) := by rw [wr_small _ (by omega) (by have := L6.out; omega)]; rfl
            have HD : Aside0 (packL wl (rd_T23 l (k : Int) :: l.drop (k + 1)) k dc = pv) := ⟨by rw [← drop_T23 hlt]; exact HL.out.2⟩
            have TL := Aside0.mk HL.out.1
            obtain ⟨ad', ea', xw, _⟩ := at_T23 HC.out (k : Int) (by omega) (by omega)
            cases ea'
            have HNE : Aside0 ((ad.add (k * 6)).block ≠ W.heap.size) := ⟨by
              have h1 := World.block_lt_of_cell? w _ xw
              rw [Int.toNat_natCast] at h1
              have := Z.out.l9
              omega⟩
            clear xw
            have KL := Aside0.mk hlt
            have hsx := HS.out (rd_T23 l (k : Int)) (by
              have : rd_T23 l (k : Int) = l[k] := by simp [rd_T23, hlt]
              rw [this]
              exact List.getElem_mem hlt)
            have hix := HI.out (rd wl (k : Int)) (rd_mem (by have := LE.out; omega))
            clear hlt HL
            generalize rd_T23 l (k : Int) = x at x0 x1 x2 x3 x4 x5 HD hsx
            obtain ⟨g0, g1, g2, g3, g4, g5⟩ := x
            dsimp only at x0 x1 x2 x3 x4 x5 hsx
            simp only [Int.toNat_natCast] at x0 x1 x2 x3 x4 x5 y0
            have HD2 : Aside0 ((if (rawV ⟨g0, g1, g2, g3, g4, g5⟩ (rd wl (k : Int))).2 = true then packL wl (l.drop (k + 1)) (k + 1) (putV dc ⟨g0, g1, g2, g3, g4, g5⟩ (rawV ⟨g0, g1, g2, g3, g4, g5⟩ (rd wl (k : Int))).1).1 else (zeros8, (k : Int), 1)) = pv) := ⟨HD.out⟩
            clear HD
            generalize rd wl (k : Int) = y at y0 HD2 hix
            have RC := Aside0.mk (fun w => RRaw_walk ⟨g0, g1, g2, g3, g4, g5⟩ hix hsx.1 hsx.2 w)
            have PT := Aside0.mk (fun raw w => RPut_walk dc TL.out ⟨g0, g1, g2, g3, g4, g5⟩ raw w)
            have PTL := Aside0.mk (fun raw => And.intro (putV_len dc ⟨g0, g1, g2, g3, g4, g5⟩ raw TL.out.1) (putV_byts TL.out ⟨g0, g1, g2, g3, g4, g5⟩ raw))
            clear hsx hix
            generalize rawV ⟨g0, g1, g2, g3, g4, g5⟩ y = rv at RC HD2
            obtain ⟨r, ok⟩ := rv
            dsimp only at RC HD2
            clear hcp
            go_wp2
            go_region_held3 (fun w' => w'.cell? (ad.add (k * 6)) = some (.int .i64 g0) ∧ w'.cell? ⟨(ad.add (k * 6)).block, (ad.add (k * 6)).off + 1, none⟩ = some (.int .i64 g1) ∧ w'.cell? ⟨(ad.add (k * 6)).block, (ad.add (k * 6)).off + 2, none⟩ = some (.bool g2) ∧ w'.cell? ⟨(ad.add (k * 6)).block, (ad.add (k * 6)).off + 3, none⟩ = some (.bool g3) ∧ w'.cell? ⟨(ad.add (k * 6)).block, (ad.add (k * 6)).off + 4, none⟩ = some (.int .i64 g4) ∧ w'.cell? ⟨(ad.add (k * 6)).block, (ad.add (k * 6)).off + 5, none⟩ = some (.int .i64 g5) ∧ w'.cell? (ad2.add k) = some (.int .i64 y)) (go_keep)
              (first
                | (go_at_call 15; (with_reducible refine (RC.out _).mono ?_); rintro e w5 ⟨rfl, hb⟩; obtain ⟨hb2, hq⟩ : ∃ _ : Below wr.heap.size wr w5, True := ⟨(by first | exact hb | exact below_step (below_drew1 (Below.refl _ _)) hb), trivial⟩; have n0 := Aside0.mk (Z.out.below hb2); have m0 := (hb2.cell (World.block_lt_of_cell? wr _ x0)).trans x0; have m1 := (hb2.cell (World.block_lt_of_cell? wr _ x1)).trans x1; have m2 := (hb2.cell (World.block_lt_of_cell? wr _ x2)).trans x2; have m3 := (hb2.cell (World.block_lt_of_cell? wr _ x3)).trans x3; have m4 := (hb2.cell (World.block_lt_of_cell? wr _ x4)).trans x4; have m5 := (hb2.cell (World.block_lt_of_cell? wr _ x5)).trans x5; have m6 := (hb2.cell (World.block_lt_of_cell? wr _ y0)).trans y0; clear hb hb2 hq Z x0 x1 x2 x3 x4 x5 y0; have Z := n0; clear n0))
            cases ok
            · obtain ⟨f0, f1, f2, f3, f4, f5, f6, f7⟩ := oct_frozen Z.out.kr
              obtain ⟨r0, r1, r2, r3, r4, r5, r6, r7⟩ := oct_cells Z.out.kr
              go_wp2
              (try simp only [Exit.inBlock, Exit.then])
              refine bodyPost_ret (results_ctt rfl _ _ w.heap.size 24 (oct 0 0 0 0 0 0 0 0) (0, 0) _ rfl (setOct_blk 0 0 0 0 0 0 0 0 Z.out.kr) Try.underlying24 rfl (by kernel_rfl)) rfl ?_
              exact ⟨by rw [← HD2.out]; rfl, setOct_below _ _ _ _ _ _ _ _ Z.out.B (Nat.le_refl _)⟩
            · obtain ⟨v0, v1, v2, v3, v4, v5, v6, v7, ey⟩ := eight (PTL.out r).1
              obtain ⟨z0, z1, z2, z3, z4, z5, z6, z7, e8⟩ := eight TL.out.1
              subst e8
              obtain ⟨er, hER⟩ : ∃ er, (putV [z0, z1, z2, z3, z4, z5, z6, z7] ⟨g0, g1, g2, g3, g4, g5⟩ r).2 = er := ⟨_, rfl⟩
              have PT2 : Aside0 (∀ w, Calls Try.prog 9 #[.agg (oct z0 z1 z2 z3 z4 z5 z6 z7), .agg #[.int .i64 g0, .int .i64 g1, .bool g2, .bool g3, .int .i64 g4, .int .i64 g5], .int .i64 r] w fun e w' => e = .returned (.tuple #[.agg (oct v0 v1 v2 v3 v4 v5 v6 v7), .int .i64 er]) ∧ Below w.heap.size w w') := ⟨fun w => by
                have := PT.out r w
                rw [ey, hER] at this
                exact this⟩
              have HD3 : Aside0 (packL wl (l.drop (k + 1)) (k + 1) [v0, v1, v2, v3, v4, v5, v6, v7] = pv) := ⟨by rw [← ey]; exact HD2.out⟩
              have NB : Aside0 (Byts [v0, v1, v2, v3, v4, v5, v6, v7]) := ⟨by rw [← ey]; exact (PTL.out r).2⟩
              clear HD2 PT hER ey
              have KD : Aside0 (w5.heap[W.heap.size]? = some (.cells (oct z0 z1 z2 z3 z4 z5 z6 z7) 24 (0, 0))) := ⟨Z.out.kd⟩
              obtain ⟨d0, d1, d2, d3, d4, d5, d6, d7⟩ := oct_cells KD.out
              obtain ⟨f0, f1, f2, f3, f4, f5, f6, f7⟩ := oct_frozen Z.out.kd
              clear m6
              go_wp2
              refine wp_region_held_drew (S := (fun w' : World => w'.cell? (ad.add (k * 6)) = some (.int .i64 g0) ∧ w'.cell? ⟨(ad.add (k * 6)).block, (ad.add (k * 6)).off + 1, none⟩ = some (.int .i64 g1) ∧ w'.cell? ⟨(ad.add (k * 6)).block, (ad.add (k * 6)).off + 2, none⟩ = some (.bool g2) ∧ w'.cell? ⟨(ad.add (k * 6)).block, (ad.add (k * 6)).off + 3, none⟩ = some (.bool g3) ∧ w'.cell? ⟨(ad.add (k * 6)).block, (ad.add (k * 6)).off + 4, none⟩ = some (.int .i64 g4) ∧ w'.cell? ⟨(ad.add (k * 6)).block, (ad.add (k * 6)).off + 5, none⟩ = some (.int .i64 g5))) (by kernel_rfl) ⟨m0, m1, m2, m3, m4, m5⟩ (fun hS0 => ?_)
              refine wpAnyH_take (i := 1) (oi := ⟨some 53, _, _, _, _, _⟩) (v := (.slice (some ad) l.length cp)) rfl (by kernel_rfl) (by kernel_rfl) (by kernel_rfl) (fun _ _ _ h => h) (Or.inl ⟨by rfl, fun w hSw => by (try dsimp only at hSw); go_simp⟩) (by assumption) ?_
              try simp only [Act.put, List.setIfInBounds_toArray, List.set_cons_zero, List.set_cons_succ]
              refine wpAnyH_take (i := 2) (oi := ⟨some 54, _, _, _, _, _⟩) (v := (.int .i64 (k : Int))) rfl (by kernel_rfl) (by kernel_rfl) (by kernel_rfl) (fun _ _ _ h => h) (Or.inl ⟨by rfl, fun w hSw => by (try dsimp only at hSw); go_simp⟩) (by assumption) ?_
              try simp only [Act.put, List.setIfInBounds_toArray, List.set_cons_zero, List.set_cons_succ]
              refine wpAnyH_take (i := 3) (oi := ⟨some 55, _, _, _, _, _⟩) (v := (.pointer (some (ad.add (k * 6))))) rfl (by kernel_rfl) (by kernel_rfl) (by kernel_rfl) (fun _ _ _ h => h) (Or.inl ⟨by rfl, fun w hSw => by (try dsimp only at hSw); go_simp⟩) (by assumption) ?_
              try simp only [Act.put, List.setIfInBounds_toArray, List.set_cons_zero, List.set_cons_succ]
              refine wpAnyH_take (i := 4) (oi := ⟨some 56, _, _, _, _, _⟩) (v := (.agg #[.int .i64 g0, .int .i64 g1, .bool g2, .bool g3, .int .i64 g4, .int .i64 g5])) rfl (by kernel_rfl) (by kernel_rfl) (by kernel_rfl) (fun _ _ _ h => h) (Or.inl ⟨by rfl, fun w hSw => by (try dsimp only at hSw); go_simp⟩) (by assumption) ?_
              try simp only [Act.put, List.setIfInBounds_toArray, List.set_cons_zero, List.set_cons_succ]
              refine wpAnyH_take (i := 5) (oi := ⟨some 57, _, _, _, _, _⟩) (v := (.int .i64 r)) rfl (by kernel_rfl) (by kernel_rfl) (by kernel_rfl) (fun _ _ _ h => h) (Or.inl ⟨by rfl, fun w hSw => by (try dsimp only at hSw); go_simp⟩) (by assumption) ?_
              try simp only [Act.put, List.setIfInBounds_toArray, List.set_cons_zero, List.set_cons_succ]
              refine wpAnyH_ready (rs := [0]) (by kernel_rfl) (by simp) ?_
              refine AllReadyH.cons (o := ⟨some 52, _, _, _, _, _⟩) rfl (fun K hK => ?_) AllReadyH.nil
              go_simp
              refine hK.out _ _ ⟨m0, m1, m2, m3, m4, m5⟩ (fun hS0 => ?_)
              clear hK K
              try simp only [Act.put, List.setIfInBounds_toArray, List.set_cons_zero, List.set_cons_succ]
              refine wpAnyH_ready (rs := [6]) (by kernel_rfl) (by simp) ?_
              refine AllReadyH.cons (o := ⟨some 58, _, _, _, _, _⟩) rfl (fun K hK => ?_) AllReadyH.nil
              go_simp
              go_at_call 9
              (with_reducible refine (PT2.out _).mono ?_); rintro e w6 ⟨rfl, hb⟩; obtain ⟨hb2, hq⟩ : ∃ _ : Below w5.heap.size w5 w6, True := ⟨(by first|exact hb|exact below_step (below_drew1 (Below.refl _ _)) hb), trivial⟩; have n0 := Aside0.mk (Z.out.below hb2); have h0 := (hb2.cell (World.block_lt_of_cell? w5 _ m0)).trans m0; have h1 := (hb2.cell (World.block_lt_of_cell? w5 _ m1)).trans m1; have h2 := (hb2.cell (World.block_lt_of_cell? w5 _ m2)).trans m2; have h3 := (hb2.cell (World.block_lt_of_cell? w5 _ m3)).trans m3; have h4 := (hb2.cell (World.block_lt_of_cell? w5 _ m4)).trans m4; have h5 := (hb2.cell (World.block_lt_of_cell? w5 _ m5)).trans m5; clear hb hb2 hq Z m0 m1 m2 m3 m4 m5 d0 d1 d2 d3 d4 d5 d6 d7 f0 f1 f2 f3 f4 f5 f6 f7; have Z := n0; clear n0; obtain ⟨f0, f1, f2, f3, f4, f5, f6, f7⟩ := oct_frozen Z.out.kd; obtain ⟨d0, d1, d2, d3, d4, d5, d6, d7⟩ := oct_cells (show w6.heap[W.heap.size]? = some (.cells (oct z0 z1 z2 z3 z4 z5 z6 z7) 24 (0, 0)) from Z.out.kd)
              dsimp only
              refine hK.out _ _ ⟨h0, h1, h2, h3, h4, h5⟩ (fun hS6 => ?_)
              clear hK K
              try simp only [Act.put, List.setIfInBounds_toArray, List.set_cons_zero, List.set_cons_succ]
              refine wpAnyH_take (i := 7) (oi := ⟨some 51, _, _, _, _, _⟩) (v := (.tuple #[.agg (oct v0 v1 v2 v3 v4 v5 v6 v7), .int .i64 er])) rfl (by kernel_rfl) (by kernel_rfl) (by kernel_rfl) (fun _ _ _ h => h) (Or.inl ⟨by rfl, fun w hSw => by (try dsimp only at hSw); go_simp⟩) (by assumption) ?_
              try simp only [Act.put, List.setIfInBounds_toArray, List.set_cons_zero, List.set_cons_succ]
              refine wpAnyH_take (i := 8) (oi := ⟨some 59, _, _, _, _, _⟩) (v := (.agg (oct v0 v1 v2 v3 v4 v5 v6 v7))) rfl (by kernel_rfl) (by kernel_rfl) (by kernel_rfl) (fun _ _ _ h => h) (Or.inl ⟨by rfl, fun w hSw => by (try dsimp only at hSw); go_simp⟩) (by assumption) ?_
              try simp only [Act.put, List.setIfInBounds_toArray, List.set_cons_zero, List.set_cons_succ]
              refine wpAnyH_take (i := 9) (oi := ⟨some 60, _, _, _, _, _⟩) (v := (.int .i64 er)) rfl (by kernel_rfl) (by kernel_rfl) (by kernel_rfl) (fun _ _ _ h => h) (Or.inl ⟨by rfl, fun w hSw => by (try dsimp only at hSw); go_simp⟩) (by assumption) ?_
              try simp only [Act.put, List.setIfInBounds_toArray, List.set_cons_zero, List.set_cons_succ]
              refine wpAnyH_ready (rs := [10]) (by kernel_rfl) (by simp) ?_
              refine AllReadyH.cons (o := ⟨none, _, _, _, _, _⟩) rfl (fun K hK => ?_) AllReadyH.nil
              go_simp
              refine hK.out _ _ ⟨(World.cell?_of_block (w := w6) (a := ad.add (k * 6)) (setOct_keep (w := w6) v0 v1 v2 v3 v4 v5 v6 v7 HNE.out)).trans h0, (World.cell?_of_block (w := w6) (a := ⟨(ad.add (k * 6)).block, (ad.add (k * 6)).off + 1, none⟩) (setOct_keep (w := w6) v0 v1 v2 v3 v4 v5 v6 v7 HNE.out)).trans h1, (World.cell?_of_block (w := w6) (a := ⟨(ad.add (k * 6)).block, (ad.add (k * 6)).off + 2, none⟩) (setOct_keep (w := w6) v0 v1 v2 v3 v4 v5 v6 v7 HNE.out)).trans h2, (World.cell?_of_block (w := w6) (a := ⟨(ad.add (k * 6)).block, (ad.add (k * 6)).off + 3, none⟩) (setOct_keep (w := w6) v0 v1 v2 v3 v4 v5 v6 v7 HNE.out)).trans h3, (World.cell?_of_block (w := w6) (a := ⟨(ad.add (k * 6)).block, (ad.add (k * 6)).off + 4, none⟩) (setOct_keep (w := w6) v0 v1 v2 v3 v4 v5 v6 v7 HNE.out)).trans h4, (World.cell?_of_block (w := w6) (a := ⟨(ad.add (k * 6)).block, (ad.add (k * 6)).off + 5, none⟩) (setOct_keep (w := w6) v0 v1 v2 v3 v4 v5 v6 v7 HNE.out)).trans h5⟩ (fun hS10 => ?_)
              clear hK K
              try simp only [Act.put, List.setIfInBounds_toArray, List.set_cons_zero, List.set_cons_succ]
              refine wpAnyH_done (by kernel_rfl) ?_ _
              go_wp2
              go_roundg k1
              case rel => exact ⟨k + 1, _, by first | rfl | rw [k1'], ⟨by have := HK.out; have := KL.out; omega⟩, ⟨NB.out, HD3.out⟩, ⟨Z.out.set _ _ _ _ _ _ _ _⟩⟩
              case measure => omega
          · have u4 : decide ((k : Int) < (l.length : Int)) = false := decide_eq_false (by omega)
            have u4b : decide (k < l.length) = false := decide_eq_false hlt
            have EN : Aside0 (pv = (dc, ((l.length : Int)), 0)) := ⟨by
              have := HL.out.2
              rw [show k = l.length by have := HK.out; omega, List.drop_length] at this
              exact this.symm⟩
            obtain ⟨z0, z1, z2, z3, z4, z5, z6, z7, e8⟩ := eight HL.out.1.1
            subst e8
            have KD : Aside0 (wr.heap[W.heap.size]? = some (.cells (oct z0 z1 z2 z3 z4 z5 z6 z7) 24 (0, 0))) := ⟨Z.out.kd⟩
            obtain ⟨f0, f1, f2, f3, f4, f5, f6, f7⟩ := oct_frozen Z.out.kr
            obtain ⟨r0, r1, r2, r3, r4, r5, r6, r7⟩ := oct_cells Z.out.kr
            obtain ⟨d0, d1, d2, d3, d4, d5, d6, d7⟩ := oct_cells KD.out
            clear hlt HL
            go_wp2
            (try simp only [Exit.inBlock, Exit.then])
            refine bodyPost_ret (results_ctt rfl _ _ w.heap.size 24 (oct z0 z1 z2 z3 z4 z5 z6 z7) (0, 0) _ rfl (setOct_blk z0 z1 z2 z3 z4 z5 z6 z7 Z.out.kr) Try.underlying24 rfl (by kernel_rfl)) rfl ?_
            exact ⟨by rw [EN.out]; rfl, setOct_below _ _ _ _ _ _ _ _ Z.out.B (Nat.le_refl _)⟩
    · have u2 : ((wl.length : Int) != (l.length : Int)) = true := by simpa using hl
      have ED := Aside0.mk (EC.trans (if_neg hl))
      clear EC hl
      go_wp2
      (try simp only [Exit.inBlock, Exit.then])
      refine bodyPost_ret (results_ctt rfl _ _ w.heap.size 24 (oct 0 0 0 0 0 0 0 0) (0, 0) _ rfl (setOct_blk 0 0 0 0 0 0 0 0 KR.out) Try.underlying24 rfl (by kernel_rfl)) rfl ?_
      exact ⟨by rw [ED.out]; rfl, setOct_below _ _ _ _ _ _ _ _ B1.out (Nat.le_refl _)⟩
  · have u1 : (c2 != 0) = true := by simpa using hc
    have EC := Aside0.mk (PV.out.trans (if_neg hc))
    clear PV hc L64
    go_wp2
    (try simp only [Exit.inBlock, Exit.then])
    refine bodyPost_ret (results_ctt rfl _ _ w.heap.size 24 (oct 0 0 0 0 0 0 0 0) (0, 0) _ rfl (setOct_blk 0 0 0 0 0 0 0 0 KR.out) Try.underlying24 rfl (by kernel_rfl)) rfl ?_
    exact ⟨by rw [EC.out]; rfl, setOct_below _ _ _ _ _ _ _ _ B1.out (Nat.le_refl _)⟩
set_option maxHeartbeats 8000000 in
set_option maxRecDepth 100000 in
theorem RUnpack_walk8 (l : List S23) (A : Option Addr) (cp : Nat) (q0 q1 q2 q3 q4 q5 q6 q7 : Int) (w : World) (hC : Kd.C k23 w A l.length l) (hcp : l.length ≤ cp) (hd : Byts [q0, q1, q2, q3, q4, q5, q6, q7]) (hS : ∀ x ∈ l, In64 x.f4 ∧ In64 x.f5) :
    Calls Try.prog 29 #[.slice A l.length cp, .agg (oct q0 q1 q2 q3 q4 q5 q6 q7)] w fun e w' => ∃ v, e = .returned (.tuple #[v, .int .i64 (unpackV l [q0, q1, q2, q3, q4, q5, q6, q7]).2.1, .int .i64 (unpackV l [q0, q1, q2, q3, q4, q5, q6, q7]).2.2]) ∧ Kd.R (Kd.int .i64) 2 w' w.heap.size (fun _ => True) v (unpackV l [q0, q1, q2, q3, q4, q5, q6, q7]).1 ∧ Below w.heap.size w w' := by
  have hu23 := Try.underlying23
  have hu24 := Try.underlying24
  have hu39 := Try.underlying39
  have hu40 := Try.underlying40
  have HC := Aside0.mk hC
  have HS := Aside0.mk hS
  clear hC hS
  have PV : Aside0 (unpackV l [q0, q1, q2, q3, q4, q5, q6, q7] = if (checkV l 8).2 = 0 then unpackL [q0, q1, q2, q3, q4, q5, q6, q7] l 0 [] else ([], (checkV l 8).1, (checkV l 8).2)) := ⟨rfl⟩
  generalize unpackV l [q0, q1, q2, q3, q4, q5, q6, q7] = pv at PV ⊢
  have CC := Aside0.mk (fun w' h => RCheck_walk l A cp 8 w' h hcp)
  have L64 : Aside0 ((checkV l 8).2 = 0 → l.length ≤ 64) := ⟨fun h => by
    unfold checkV at h
    split at h
    · cases h
    · omega⟩
  generalize checkV l 8 = cv at CC PV L64
  obtain ⟨c1, c2⟩ := cv
  dsimp only at CC PV L64
  have K0 : Aside0 (Uk [q0, q1, q2, q3, q4, q5, q6, q7] w.heap.size w (w.alloc (.cells (oct q0 q1 q2 q3 q4 q5 q6 q7) 24))) := ⟨⟨blk_new _ _, below_alloc (Below.refl _ _) _⟩⟩
  go_enter Try.func29, Try.ntmps29
  go_wp2_with fail
  (with_reducible refine (CC.out _ (Kd.C_below HC.out K0.out.B)).mono ?_)
  rintro e W ⟨rfl, hb⟩
  have K1 := Aside0.mk (K0.out.below hb)
  clear hb K0
  by_cases hc : c2 = 0
  · have u1 : (c2 != 0) = false := by simpa using hc
    have EC := PV.out.trans (if_pos hc)
    have L6 := Aside0.mk (L64.out hc)
    clear PV hc L64
    have HE : Aside0 (unpackL [q0, q1, q2, q3, q4, q5, q6, q7] (l.drop 0) 0 [] = pv) := ⟨EC.symm⟩
    clear EC
    go_wp2
    go_loopg [9, 10] (l.length + 1) (fun kq v9 v10 w' => ∃ (k : Nat) (u : Value) (xs : List Int), v9 = u ∧ v10 = .int .i64 (k : Int) ∧ Aside0 (k ≤ l.length ∧ l.length < k + kq ∧ xs.length ≤ k) ∧ Aside0 (unpackL [q0, q1, q2, q3, q4, q5, q6, q7] (l.drop k) k xs = pv) ∧ Aside0 (Uk [q0, q1, q2, q3, q4, q5, q6, q7] w.heap.size w w') ∧ Aside0 (Kd.R (Kd.int .i64) 2 w' w.heap.size (fun _ => True) u xs))
    case atStart => exact ⟨0, _, [], rfl, rfl, ⟨⟨by omega, by omega, Nat.le_refl _⟩⟩, HE, K1, ⟨Kd.R_nil _ _ _ _ _⟩⟩
    case round =>
      clear HE K1
      obtain ⟨k, u, xs, rfl, rfl, HK, HL, Z, HR⟩ := hrel
      cases gk with
      | zero => exact absurd HK.out (by omega)
      | succ k1 =>
        by_cases hlt : k < l.length
        · have u4 : decide ((k : Int) < (l.length : Int)) = true := decide_eq_true (by omega)
          have u4b : decide (k < l.length) = true := decide_eq_true hlt
          have p1 : (0 ≤ (k : Int)) = True := eq_true (by omega)
          have q1' : ((k : Int) < (l.length : Int)) = True := eq_true (by omega)
          obtain ⟨ad, ea, x0, x1, x2, x3, x4, x5⟩ := at_T23 (Kd.C_below HC.out Z.out.B) (k : Int) (by omega) (by omega)
          cases ea
          have k1' : wrap64 ((k : Int) + 1) = ((k + 1 : Nat) : Int) := by rw [wr_small _ (by omega) (by have := L6.out; omega)]; rfl
          have HD : Aside0 (unpackL [q0, q1, q2, q3, q4, q5, q6, q7] (rd_T23 l (k : Int) :: l.drop (k + 1)) k xs = pv) := ⟨by rw [← drop_T23 hlt]; exact HL.out⟩
          have KL := Aside0.mk hlt
          have hsx := HS.out (rd_T23 l (k : Int)) (by
            have : rd_T23 l (k : Int) = l[k] := by simp [rd_T23, hlt]
            rw [this]
            exact List.getElem_mem hlt)
          clear hlt HL
          generalize rd_T23 l (k : Int) = x at x0 x1 x2 x3 x4 x5 HD hsx
          obtain ⟨g0, g1, g2, g3, g4, g5⟩ := x
          dsimp only at x0 x1 x2 x3 x4 x5 hsx
          simp only [Int.toNat_natCast] at x0 x1 x2 x3 x4 x5
          have GC : Aside0 (∀ w, Calls Try.prog 23 #[.agg (oct q0 q1 q2 q3 q4 q5 q6 q7), .agg #[.int .i64 g0, .int .i64 g1, .bool g2, .bool g3, .int .i64 g4, .int .i64 g5]] w fun e w' => e = .returned (.int .i64 (getV [q0, q1, q2, q3, q4, q5, q6, q7] ⟨g0, g1, g2, g3, g4, g5⟩)) ∧ Below w.heap.size w w') := ⟨fun w => RGet_walk [q0, q1, q2, q3, q4, q5, q6, q7] hd ⟨g0, g1, g2, g3, g4, g5⟩ w⟩
          have G64 := getV_64 [q0, q1, q2, q3, q4, q5, q6, q7] ⟨g0, g1, g2, g3, g4, g5⟩
          have HD2 : Aside0 ((if (worthV ⟨g0, g1, g2, g3, g4, g5⟩ (getV [q0, q1, q2, q3, q4, q5, q6, q7] ⟨g0, g1, g2, g3, g4, g5⟩)).2 = true then unpackL [q0, q1, q2, q3, q4, q5, q6, q7] (l.drop (k + 1)) (k + 1) (xs ++ [(worthV ⟨g0, g1, g2, g3, g4, g5⟩ (getV [q0, q1, q2, q3, q4, q5, q6, q7] ⟨g0, g1, g2, g3, g4, g5⟩)).1]) else ([], (k : Int), 9)) = pv) := ⟨HD.out⟩
          clear HD
          generalize getV [q0, q1, q2, q3, q4, q5, q6, q7] ⟨g0, g1, g2, g3, g4, g5⟩ = gv at GC G64 HD2
          have WC := Aside0.mk (fun w => RWorth_walk ⟨g0, g1, g2, g3, g4, g5⟩ G64 hsx.1 hsx.2 w)
          clear hsx G64
          generalize worthV ⟨g0, g1, g2, g3, g4, g5⟩ gv = wv at WC HD2
          obtain ⟨x, ok⟩ := wv
          dsimp only at WC HD2
          obtain ⟨d0, d1, d2, d3, d4, d5, d6, d7⟩ := oct_cells (show wr.heap[w.heap.size]? = some (.cells (oct q0 q1 q2 q3 q4 q5 q6 q7) 24 (0, 0)) from Z.out.kd)
          clear hcp hd
          go_wp2
          go_region_held3 (fun w' => w'.cell? (ad.add (k * 6)) = some (.int .i64 g0) ∧ w'.cell? ⟨(ad.add (k * 6)).block, (ad.add (k * 6)).off + 1, none⟩ = some (.int .i64 g1) ∧ w'.cell? ⟨(ad.add (k * 6)).block, (ad.add (k * 6)).off + 2, none⟩ = some (.bool g2) ∧ w'.cell? ⟨(ad.add (k * 6)).block, (ad.add (k * 6)).off + 3, none⟩ = some (.bool g3) ∧ w'.cell? ⟨(ad.add (k * 6)).block, (ad.add (k * 6)).off + 4, none⟩ = some (.int .i64 g4) ∧ w'.cell? ⟨(ad.add (k * 6)).block, (ad.add (k * 6)).off + 5, none⟩ = some (.int .i64 g5) ∧ w'.cell? ⟨w.heap.size, 0, none⟩ = some (.int .u8 q0) ∧ w'.cell? ⟨w.heap.size, 1, none⟩ = some (.int .u8 q1) ∧ w'.cell? ⟨w.heap.size, 2, none⟩ = some (.int .u8 q2) ∧ w'.cell? ⟨w.heap.size, 3, none⟩ = some (.int .u8 q3) ∧ w'.cell? ⟨w.heap.size, 4, none⟩ = some (.int .u8 q4) ∧ w'.cell? ⟨w.heap.size, 5, none⟩ = some (.int .u8 q5) ∧ w'.cell? ⟨w.heap.size, 6, none⟩ = some (.int .u8 q6) ∧ w'.cell? ⟨w.heap.size, 7, none⟩ = some (.int .u8 q7)) (go_keep)
            (first
              | (go_at_call 23; (with_reducible refine (GC.out _).mono ?_); rintro e w5 ⟨rfl, hb⟩; obtain ⟨hb2, hq⟩ : ∃ _ : Below wr.heap.size wr w5, True := ⟨(by first | exact hb | exact below_step (below_drew1 (Below.refl _ _)) hb), trivial⟩; have n0 := Aside0.mk (Z.out.below hb2); have n2 := Aside0.mk (Kd.R_below HR.out hb2); have m0 := (hb2.cell (World.block_lt_of_cell? wr _ x0)).trans x0; have m1 := (hb2.cell (World.block_lt_of_cell? wr _ x1)).trans x1; have m2 := (hb2.cell (World.block_lt_of_cell? wr _ x2)).trans x2; have m3 := (hb2.cell (World.block_lt_of_cell? wr _ x3)).trans x3; have m4 := (hb2.cell (World.block_lt_of_cell? wr _ x4)).trans x4; have m5 := (hb2.cell (World.block_lt_of_cell? wr _ x5)).trans x5; clear hb hb2 hq Z HR x0 x1 x2 x3 x4 x5 d0 d1 d2 d3 d4 d5 d6 d7; have Z := n0; have HR := n2; clear n0 n2; obtain ⟨d0, d1, d2, d3, d4, d5, d6, d7⟩ := oct_cells (show w5.heap[w.heap.size]? = some (.cells (oct q0 q1 q2 q3 q4 q5 q6 q7) 24 (0, 0)) from Z.out.kd); have x0 := m0; have x1 := m1; have x2 := m2; have x3 := m3; have x4 := m4; have x5 := m5; clear m0 m1 m2 m3 m4 m5)
              | (go_at_call 13; (with_reducible refine (WC.out _).mono ?_); rintro e w6 ⟨rfl, hb⟩; obtain ⟨hb2, hq⟩ : ∃ _ : Below w5.heap.size w5 w6, True := ⟨(by first | exact hb | exact below_step (below_drew1 (Below.refl _ _)) hb), trivial⟩; have n0 := Aside0.mk (Z.out.below hb2); have n2 := Aside0.mk (Kd.R_below HR.out hb2); have m0 := (hb2.cell (World.block_lt_of_cell? w5 _ x0)).trans x0; have m1 := (hb2.cell (World.block_lt_of_cell? w5 _ x1)).trans x1; have m2 := (hb2.cell (World.block_lt_of_cell? w5 _ x2)).trans x2; have m3 := (hb2.cell (World.block_lt_of_cell? w5 _ x3)).trans x3; have m4 := (hb2.cell (World.block_lt_of_cell? w5 _ x4)).trans x4; have m5 := (hb2.cell (World.block_lt_of_cell? w5 _ x5)).trans x5; clear hb hb2 hq Z HR x0 x1 x2 x3 x4 x5 d0 d1 d2 d3 d4 d5 d6 d7; have Z := n0; have HR := n2; clear n0 n2; obtain ⟨d0, d1, d2, d3, d4, d5, d6, d7⟩ := oct_cells (show w6.heap[w.heap.size]? = some (.cells (oct q0 q1 q2 q3 q4 q5 q6 q7) 24 (0, 0)) from Z.out.kd); have x0 := m0; have x1 := m1; have x2 := m2; have x3 := m3; have x4 := m4; have x5 := m5; clear m0 m1 m2 m3 m4 m5))
          clear x0 x1 x2 x3 x4 x5 d0 d1 d2 d3 d4 d5 d6 d7
          cases ok
          · go_wp2
            (try simp only [Exit.inBlock, Exit.then])
            refine bodyPost_ret (results_tmp3 rfl _ _ _) rfl ?_
            exact ⟨_, by rw [← HD2.out]; rfl, by rw [← HD2.out]; exact Kd.R_nil _ _ _ _ _, Z.out.B⟩
          · go_wp2_with (first | ((with_reducible refine gate_builtin (b := .append) (xs := #[.tmp 45, .tmp 47]) rfl ?_); at_builtin; refine Kd.R_append (Kd.int .i64) (w0 := w) w.heap.size rfl (.tmp 45) (.tmp 47) 40 2 (.int .i64 0) 8 rfl Try.underlying40 sinfo2 rfl (by decide) (by omega) u9 xs x [.int .i64 x] (fun _ => True) (fun _ => False) rfl rfl ?aP (fun _ hk => hk.elim) ?aF ?aO ?aB ?aS ?aL ?_; (case aP => exact rfl); (case aF => exact (fun _ _ => trivial)); (case aO => exact HR.out); (case aB => exact Z.out.B); (case aS => exact Z.out.B.size); (case aL => have := HK.out; have := KL.out; have := L6.out; omega); intro v2 w6 ho hb hg hat; have n0 := Aside0.mk (show Uk _ w.heap.size w w6 from ⟨blk_grown Z.out.kd hg (Kd.R_ne HR.out Z.out.kd (by decide)), hb⟩); have n1 := Aside0.mk ho; clear Z HR ho hb hg hat; have Z := n0; have HR := n1; clear n0 n1))
            go_roundg k1
            case rel => exact ⟨k + 1, _, xs ++ [x], rfl, by first | rfl | rw [k1'], ⟨⟨by have := KL.out; omega, by have := HK.out; omega, by rw [List.length_append]; have := HK.out; simp; omega⟩⟩, ⟨HD2.out⟩, Z, HR⟩
            case measure => omega
        · have u4 : decide ((k : Int) < (l.length : Int)) = false := decide_eq_false (by omega)
          have u4b : decide (k < l.length) = false := decide_eq_false hlt
          have EN : Aside0 (pv = (xs, ((l.length : Int)), 0)) := ⟨by
            have := HL.out
            rw [show k = l.length by have := HK.out; omega, List.drop_length] at this
            exact this.symm⟩
          clear hlt HL
          go_wp2
          (try simp only [Exit.inBlock, Exit.then])
          refine bodyPost_ret (results_tmp3 rfl _ _ _) rfl ?_
          exact ⟨_, by rw [EN.out]; rfl, by rw [EN.out]; exact HR.out, Z.out.B⟩
  · have u1 : (c2 != 0) = true := by simpa using hc
    have EC := Aside0.mk (PV.out.trans (if_neg hc))
    clear PV hc L64
    go_wp2
    (try simp only [Exit.inBlock, Exit.then])
    refine bodyPost_ret (results_tmp3 rfl _ _ _) rfl ?_
    exact ⟨_, by rw [EC.out]; rfl, by rw [EC.out]; exact Kd.R_nil _ _ _ _ _, K1.out.B⟩
theorem RUnpack_walk (l : List S23) (A : Option Addr) (cp : Nat) (d : List Int) (hd : d.length = 8) (w : World) (hC : Kd.C k23 w A l.length l) (hcp : l.length ≤ cp) (hb : Byts d) (hS : ∀ x ∈ l, In64 x.f4 ∧ In64 x.f5) :
    Calls Try.prog 29 #[.slice A l.length cp, .agg (bytesA d)] w fun e w' => ∃ v, e = .returned (.tuple #[v, .int .i64 (unpackV l d).2.1, .int .i64 (unpackV l d).2.2]) ∧ Kd.R (Kd.int .i64) 2 w' w.heap.size (fun _ => True) v (unpackV l d).1 ∧ Below w.heap.size w w' := by
  obtain ⟨q0, q1, q2, q3, q4, q5, q6, q7, rfl⟩ := eight hd
  exact RUnpack_walk8 l A cp q0 q1 q2 q3 q4 q5 q6 q7 w hC hcp hb hS
end Go.Proofs.Ytepeihlhokpjjaa.P
