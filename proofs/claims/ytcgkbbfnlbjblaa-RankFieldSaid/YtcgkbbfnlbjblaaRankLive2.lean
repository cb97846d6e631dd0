/- What must be whatever is asked, of ranks: the walk. No condition. -/
import Derived.Test.YtcgkbbfnlbjblaaRankLive
namespace Go.Proofs.Ytcgkbbfnlbjblaa.P
open Go.RowKit Go.Proofs.YtcgkbbfnlbjblaaW.PrintWords Go.Proofs.YtcgkbbfnlbjblaaW.PrintLast Go.Proofs.YtcgkbbfnlbjblaaW.PrintMore
set_option linter.unusedVariables false
set_option linter.unusedSimpArgs false
/-- A field of three, so many ticks later; a node of rank 1 that hears nobody. -/
def lvF : Nat → (Nat → Option Nd) × List Int
  | 0 => (openL 3, [])
  | i + 1 => (tickL (WJ 5 2 3) 3 (lvF i).1 (lvF i).2 false, tickT (WJ 5 2 3) 3 3 (lvF i).1 (lvF i).2 false)
def lvN : Nat → Nd
  | 0 => ⟨false, 0, 0⟩
  | i + 1 => (tickN (waitV 5 2 3 1) 3 1 [] (lvN i)).2
theorem lvF_ok : ∀ i, FOk (WJ 5 2 3) 3 3 (lvF i).1
  | 0 => FOk.opened _ _ _ _ (fun j _ => (wait_range 5 2 3 (j : Int)).1) (by decide)
  | i + 1 => (lvF_ok i).tick (fun j _ => (wait_range 5 2 3 (j : Int)).1) (by decide) _ _
theorem lvN_ok : ∀ i, NdOk (waitV 5 2 3 1) 3 (lvN i)
  | 0 => ⟨Int.le_refl 0, (wait_range 5 2 3 1).1, Int.le_refl 0, by decide⟩
  | i + 1 => tickN_ok (lvN_ok i) (wait_range 5 2 3 1).1 (by decide)
theorem lv_masters : toldL (fun j => mO ((lvF 6).1 j)) 3 = [0] := by decide +kernel
theorem lv_crash : turnEL 3 (lvF 6).1 0 false = 0 := by decide +kernel
theorem lv_crash2 : turnEL 3 (turnL 3 (lvF 6).1 0 false) 0 false = 8 := by decide +kernel
theorem lv_restart : turnEL 3 (turnL 3 (turnL 3 (lvF 6).1 0 false) 0 false) 0 true = 0 := by decide +kernel
theorem lv_alive : aliveL 3 (turnL 3 (turnL 3 (turnL 3 (lvF 6).1 0 false) 0 false) 0 true) 0 = true := by decide +kernel
theorem lv_was : (lvN 8).m = true := by decide +kernel
theorem lv_hears : (tickN (waitV 5 2 3 1) 3 1 [0] (lvN 8)).2.m = false ∧ (tickN (waitV 5 2 3 1) 3 1 [0] (lvN 8)).2.i = 0 := by decide +kernel
theorem lv_right : rightB 5 2 3 = true := by decide
theorem Fld.other {w w' : World} {base f g n k t : Nat} {b s p : Int} {H : Nat → Option Nat} {L : Nat → Option Nd} {told : List Int} {cs : Array Value} (h : Fld w base f g b s p n H L told) (hc : Ch (FldS f g H n) w w') (hk : w.heap[k]? = some (.cells cs t (0, 0))) (h1 : t ≠ 81) (h2 : t ≠ 36) (h3 : t ≠ 77) : w'.heap[k]? = some (.cells cs t (0, 0)) := by
  obtain ⟨v4, i1, _⟩ := h.fv
  obtain ⟨gc, i2, _⟩ := h.gv
  refine hc.blk hk ?_
  rintro (rfl | rfl | q)
  · exact h1 (blk_type hk i1)
  · exact h2 (blk_type hk i2)
  · exact not_FS h.nd hk h3 q
theorem Fld.fresh {w : World} {base f g n q : Nat} {b s p : Int} {H : Nat → Option Nat} {L : Nat → Option Nd} {told : List Int} (h : Fld w base f g b s p n H L told) (hq : w.heap.size ≤ q) : ¬ FldS f g H n q := by
  obtain ⟨v4, i1, _⟩ := h.fv
  obtain ⟨gc, i2, _⟩ := h.gv
  rintro (rfl | rfl | ⟨j, hj, e⟩)
  · have := blk_lt i1; omega
  · have := blk_lt i2; omega
  · have := (h.nd.at_ j hj).lt e; omega
theorem Open3 (w : World) : Calls Try.prog 23 #[.agg #[.int .i64 5, .int .i64 2, .int .i64 3], .int .i64 3] w fun e w' => ∃ f g H, e = .returned (.tuple #[.pointer (some ⟨f, 0, none⟩), .int .i64 0]) ∧ Fld w' w.heap.size f g 5 2 3 3 H (lvF 0).1 (lvF 0).2 ∧ Below w.heap.size w w' :=
  Open_yes 5 2 3 3 w lv_right (by decide) (by decide)
theorem Open0 (w : World) : Calls Try.prog 23 #[.agg #[.int .i64 0, .int .i64 0, .int .i64 0], .int .i64 1] w fun e w' => e = .returned (.tuple #[.pointer none, .int .i64 1]) ∧ Below w.heap.size w w' := Open_no 0 0 0 1 w (by decide)
theorem FTick3 (base f g i : Nat) (H : Nat → Option Nat) (w : World) (h : Fld w base f g 5 2 3 3 H (lvF i).1 (lvF i).2) (hb : base ≤ w.heap.size) :
    Calls Try.prog 30 #[.pointer (some ⟨f, 0, none⟩), .bool false] w fun e w' => (∃ v, e = .returned v) ∧ Fld w' base f g 5 2 3 3 H (lvF (i + 1)).1 (lvF (i + 1)).2 ∧ Ch (FldS f g H 3) w w' :=
  FTickL_calls false base f g 3 5 2 3 H (lvF i).1 (lvF i).2 w h hb (by decide) lv_right (lvF_ok i)
theorem R_one {w : World} {base : Nat} {ok : Nat → Prop} {v : Value} {x : Int} (h : Kd.R (Kd.int .i64) 3 w base ok v [x]) : ∃ q c, v = .slice (some ⟨q, 0, none⟩) 1 c ∧ q < w.heap.size ∧ w.cell? ⟨q, 0, none⟩ = some (.int .i64 x) := by
  obtain ⟨A, c, e, hl, hC⟩ := Kd.R_reads h
  obtain ⟨inner, ho⟩ := Kd.R_own h
  have hlt := own_lt ho
  rcases ho.2 with ⟨rfl, h0⟩ | ⟨q, cap, cur, rfl, hg, hh, r⟩
  · cases h0
  · injection e with e1 e2 e3
    subst e1; subst e3
    obtain ⟨ad, e4, hx⟩ := Kd.at_int hC 0 (by decide) (by show (0 : Int) < 1; decide)
    injection e4 with e4
    subst e4
    exact ⟨q, cap, rfl, hlt q rfl, hx⟩
theorem Fld.keepN {w w' : World} {S : Nat → Prop} {base f g : Nat} {b s p : Int} {n : Nat} {H : Nat → Option Nat} {L : Nat → Option Nd} {told : List Int} (h : Fld w base f g b s p n H L told) (hc : Ch S w w') (hS : ∀ k, FldS f g H n k → ¬ S k) (h3 : ∀ k cs, S k → w.heap[k]? = some (.cells cs 3 (0, 0)) → False) :
    Fld w' base f g b s p n H L told := by
  obtain ⟨v4, i1, i2⟩ := h.fv
  obtain ⟨gc, i3, i4⟩ := h.gv
  exact ⟨⟨v4, hc.blk i1 (hS f (.inl rfl)), R_ch i2 hc h3⟩, ⟨gc, hc.blk i3 (hS g (.inr (.inl rfl))), i4⟩, h.nd.keep hc (fun k q => hS k (.inr (.inr q))), h.bf, h.bg, h.bh⟩
theorem Fld.row {w w' : World} {base f g n b2 : Nat} {ok : Nat → Prop} {b s p : Int} {H : Nat → Option Nat} {L : Nat → Option Nd} {told xs : List Int} {v : Value} (h : Fld w base f g b s p n H L told) (hc : Ch (FldS f g H n) w w') (hr : Kd.R (Kd.int .i64) 3 w b2 ok v xs) : Kd.R (Kd.int .i64) 3 w' b2 ok v xs :=
  R_ch hr hc fun k cs q hh => by
    obtain ⟨v4, i1, _⟩ := h.fv
    obtain ⟨gc, i2, _⟩ := h.gv
    rcases q with rfl | rfl | q
    · exact absurd (blk_type hh i1) (by decide)
    · exact absurd (blk_type hh i2) (by decide)
    · exact not_FS h.nd hh (by decide) q
structure Lv (w : World) (b0 f g : Nat) (H : Nat → Option Nat) (L : Nat → Option Nd) (told : List Int) (v : Value) (W : World) : Prop where
  F : Fld W b0 f g 5 2 3 3 H L told
  K : W.heap[w.heap.size]? = some (.cells #[.int .i64 5, .int .i64 2, .int .i64 3] 23 (0, 0))
  B : Below w.heap.size w W
  S : w.heap.size ≤ b0 ∧ b0 ≤ W.heap.size
  M : Kd.R (Kd.int .i64) 3 W w.heap.size (fun _ => True) v [0]
section
variable {w W W' : World} {b0 f g : Nat} {H H' : Nat → Option Nat} {L L' : Nat → Option Nd} {told told' : List Int} {v : Value}
theorem Lv.below (h : Lv w b0 f g H L told v W) (hb : Below W.heap.size W W') : Lv w b0 f g H L told v W' :=
  ⟨h.F.below hb, blk_below h.K hb, below_step h.B hb, ⟨h.S.1, Nat.le_trans h.S.2 hb.size⟩, Kd.R_below h.M hb⟩
theorem Lv.field (h : Lv w b0 f g H L told v W) (hF : Fld W' b0 f g 5 2 3 3 H' L' told') (hC : Ch (FldS f g H 3) W W') : Lv w b0 f g H' L' told' v W' :=
  ⟨hF, h.F.other hC h.K (by decide) (by decide) (by decide), h.B.trans (hC.below h.B.size (fun k hk => Nat.le_trans h.S.1 (h.F.base_le k hk))), ⟨h.S.1, Nat.le_trans h.S.2 hC.size⟩, h.F.row hC h.M⟩
theorem Lv.node {q : Nat} {r : Int} {x : Nd} (h : Lv w b0 f g H L told v W) (hn : NdAt W q 5 2 3 r x) (hq : ¬ FldS f g H 3 q) (hw : w.heap.size ≤ q) (hC : Ch (fun k => k = q) W W') : Lv w b0 f g H L told v W' :=
  ⟨h.F.keepN hC (fun k hk e => hq (by rw [← e]; exact hk)) (fun k cs e hh => by rw [e] at hh; exact absurd (blk_type hh hn) (by decide)), hC.blk h.K (fun e => by have := h.K; rw [e] at this; exact absurd (blk_type this hn) (by decide)),
    h.B.trans (hC.below h.B.size (fun k hk => by rw [hk]; exact hw)), ⟨h.S.1, Nat.le_trans h.S.2 hC.size⟩, R_ch h.M hC (fun k cs e hh => by rw [e] at hh; exact absurd (blk_type hh hn) (by decide))⟩
end
set_option maxHeartbeats 8000000 in
set_option maxRecDepth 100000 in
theorem live_calls (w : World) : Calls Try.prog 8 #[] w fun e w' => e = .returned (.bool true) ∧ Below w.heap.size w w' := by
  have hu23 := Try.underlying23
  have K1 : Aside0 ((w.alloc (.cells #[.int .i64 5, .int .i64 2, .int .i64 3] 23)).heap[w.heap.size]? = some (.cells #[.int .i64 5, .int .i64 2, .int .i64 3] 23 (0, 0))) := ⟨blk_new _ _⟩
  have B1 : Aside0 (Below w.heap.size w (w.alloc (.cells #[.int .i64 5, .int .i64 2, .int .i64 3] 23))) := ⟨below_alloc (Below.refl _ _) _⟩
  have d0 := (blk_cell K1.out 0).trans rfl
  have d1 := (blk_cell K1.out 1).trans rfl
  have d2 := (blk_cell K1.out 2).trans rfl
  go_enter Try.func8, Try.ntmps8
  go_wp2_with fail
  (with_reducible refine (Open3 _).mono ?_); rintro e w2 ⟨f, g, H, rfl, hF, hB⟩
  have F2 := Aside0.mk hF
  have K2 : Aside0 (w2.heap[w.heap.size]? = some (.cells #[.int .i64 5, .int .i64 2, .int .i64 3] 23 (0, 0))) := ⟨blk_below K1.out hB⟩
  have B2 : Aside0 (Below w.heap.size w w2) := ⟨below_step B1.out hB⟩
  obtain ⟨b0, hb0⟩ : ∃ b0, (w.alloc (.cells #[.int .i64 5, .int .i64 2, .int .i64 3] 23)).heap.size = b0 := ⟨_, rfl⟩
  have HB0 : Aside0 (w.heap.size ≤ b0 ∧ b0 ≤ w2.heap.size) := ⟨by rw [← hb0]; exact ⟨B1.out.size, hB.size⟩⟩
  rw [hb0] at F2
  clear hF hB K1 B1 d0 d1 d2 hb0
  go_wp2_with fail
  (with_reducible refine (Open0 _).mono ?_); rintro e w3 ⟨rfl, hB⟩
  have F3 : Aside0 (Fld w3 b0 f g 5 2 3 3 H (lvF 0).1 (lvF 0).2) := ⟨F2.out.below hB⟩
  have K3 : Aside0 (w3.heap[w.heap.size]? = some (.cells #[.int .i64 5, .int .i64 2, .int .i64 3] 23 (0, 0))) := ⟨blk_below K2.out hB⟩
  have B3 : Aside0 (Below w.heap.size w w3 ∧ b0 ≤ w3.heap.size) := ⟨⟨below_step B2.out hB, Nat.le_trans HB0.out.2 hB.size⟩⟩
  clear hB F2 K2 B2
  go_wp2_with fail
  go_loopg [6] 6 (fun kq v6 w' => ∃ i : Nat, v6 = .int .i64 (i : Int) ∧ Aside0 (i + kq = 6) ∧ Aside0 (Fld w' b0 f g 5 2 3 3 H (lvF i).1 (lvF i).2) ∧ Aside0 (w'.heap[w.heap.size]? = some (.cells #[.int .i64 5, .int .i64 2, .int .i64 3] 23 (0, 0))) ∧ Aside0 (Below w.heap.size w w' ∧ b0 ≤ w'.heap.size))
  case atStart => exact ⟨0, rfl, ⟨by omega⟩, F3, K3, B3⟩
  case round =>
    clear F3 K3 B3
    obtain ⟨i, rfl, HJ, F4, K4, B4⟩ := hrel
    cases gk with
    | succ k1 =>
      have hi : i < 6 := by have := HJ.out; omega
      have HI := Aside0.mk hi
      have u1 : decide ((i : Int) < 6) = true := decide_eq_true (by omega)
      clear hi
      go_wp2_with fail
      (with_reducible refine (FTick3 b0 f g i H _ F4.out B4.out.2).mono ?_); rintro e w5 ⟨⟨v, rfl⟩, hF, hC⟩
      have F5 := Aside0.mk hF
      have K5 : Aside0 (w5.heap[w.heap.size]? = some (.cells #[.int .i64 5, .int .i64 2, .int .i64 3] 23 (0, 0))) := ⟨F4.out.other hC K4.out (by decide) (by decide) (by decide)⟩
      have B5 : Aside0 (Below w.heap.size w w5 ∧ b0 ≤ w5.heap.size) := ⟨⟨B4.out.1.trans (hC.below B4.out.1.size (fun k hk => Nat.le_trans HB0.out.1 (F4.out.base_le k hk))), Nat.le_trans B4.out.2 hC.size⟩⟩
      clear hF hC F4 K4 B4
      go_wp2_with fail
      go_roundg k1
      case measure => omega
      case rel =>
        refine ⟨i + 1, ?_, ⟨by have := HJ.out; omega⟩, F5, K5, B5⟩
        rw [i64w _ (by omega) (by have := HI.out; omega)]
        rfl
    | zero =>
      obtain rfl : i = 6 := by have := HJ.out; omega
      go_wp2_with fail
      (with_reducible refine (Masters_calls b0 f g 3 5 2 3 H _ _ _ F4.out (by decide)).mono ?_); rintro e w6 ⟨v, rfl, hr, hB⟩
      rw [lv_masters] at hr
      have L6 : Aside0 (Lv w b0 f g H (lvF 6).1 (lvF 6).2 v w6) := ⟨⟨F4.out.below hB, blk_below K4.out hB, below_step B4.out.1 hB, ⟨HB0.out.1, Nat.le_trans B4.out.2 hB.size⟩, Kd.R_lower hr (B4.out.1.size)⟩⟩
      obtain ⟨mq, mc, rfl, hmq, hm0⟩ := R_one hr
      clear hr hB F4 K4 B4 hmq hm0
      go_wp2_with fail
      (with_reducible refine (CrashL_calls b0 f g 3 5 2 3 0 H _ _ _ L6.out.F L6.out.S.2 (by decide) lv_right).mono ?_); rintro e w7 ⟨H7, rfl, hF, hC⟩
      rw [lv_crash]
      have L7 := Aside0.mk (L6.out.field hF hC)
      clear hF hC L6
      go_wp2_with fail
      (with_reducible refine (CrashL_calls b0 f g 3 5 2 3 0 H7 _ _ _ L7.out.F L7.out.S.2 (by decide) lv_right).mono ?_); rintro e w8 ⟨H8, rfl, hF, hC⟩
      rw [lv_crash2]
      have L8 := Aside0.mk (L7.out.field hF hC)
      clear hF hC L7
      have d0 := (blk_cell L8.out.K 0).trans rfl
      have d1 := (blk_cell L8.out.K 1).trans rfl
      have d2 := (blk_cell L8.out.K 2).trans rfl
      go_wp2_with fail
      (with_reducible refine (New_yes 5 2 3 1 _ lv_right (by decide)).mono ?_); rintro e w9 ⟨q, rfl, hq, hn, hB⟩
      have L9 := Aside0.mk (L8.out.below hB)
      have HQ : Aside0 (¬ FldS f g H8 3 q ∧ w.heap.size ≤ q) := ⟨L8.out.F.fresh hq, Nat.le_trans L8.out.B.size hq⟩
      have N9 : Aside0 (NdAt w9 q 5 2 3 1 (lvN 0)) := ⟨hn⟩
      clear d0 d1 d2 hq hn hB L8
      go_wp2_with fail
      go_loopg [12] 8 (fun kq v12 w' => ∃ i : Nat, v12 = .int .i64 (i : Int) ∧ Aside0 (i + kq = 8) ∧ Aside0 (Lv w b0 f g H8 (turnL 3 (turnL 3 (lvF 6).1 0 false) 0 false) (lvF 6).2 (.slice (some ⟨mq, 0, none⟩) 1 mc) w') ∧ Aside0 (NdAt w' q 5 2 3 1 (lvN i)))
      case atStart => exact ⟨0, rfl, ⟨by omega⟩, L9, N9⟩
      case round =>
        clear L9 N9
        obtain ⟨i, rfl, HJ2, L10, N10⟩ := hrel
        cases gk with
        | succ k1 =>
          have hi : i < 8 := by have := HJ2.out; omega
          have HI := Aside0.mk hi
          have u1 : decide ((i : Int) < 8) = true := decide_eq_true (by omega)
          clear hi
          go_wp2_with fail
          (with_reducible refine (Tick_quiet q 5 2 3 1 (lvN i) _ N10.out lv_right (lvN_ok i)).mono ?_); rintro e w11 ⟨rfl, hn, hC⟩
          have L11 := Aside0.mk (L10.out.node N10.out HQ.out.1 HQ.out.2 hC)
          have N11 : Aside0 (NdAt w11 q 5 2 3 1 (lvN (i + 1))) := ⟨hn⟩
          clear hn hC L10 N10
          go_wp2_with fail
          go_roundg k1
          case measure => omega
          case rel =>
            refine ⟨i + 1, ?_, ⟨by have := HJ2.out; omega⟩, L11, N11⟩
            rw [i64w _ (by omega) (by have := HI.out; omega)]
            rfl
        | zero =>
          obtain rfl : i = 8 := by have := HJ2.out; omega
          go_wp2_with fail
          (with_reducible refine (Master_calls q 5 2 3 1 _ _ N10.out).mono ?_); rintro e w12 ⟨rfl, hd⟩
          rw [lv_was]
          have L12 := Aside0.mk (L10.out.below hd.below)
          have N12 : Aside0 (NdAt w12 q 5 2 3 1 (lvN 8)) := ⟨blk_below N10.out hd.below⟩
          clear L10 N10 hd
          go_wp2_with fail
          (with_reducible refine (Tick_one q 5 2 3 1 0 (lvN 8) w12 N12.out lv_right (lvN_ok 8)).mono ?_); rintro e w13 ⟨rfl, hn, hC⟩
          have hA := below_alloc (Below.refl w12.heap.size w12) (.cells #[.int .i64 0] 3)
          have L13 := Aside0.mk ((L12.out.below hA).node (blk_below N12.out hA) HQ.out.1 HQ.out.2 hC)
          have N13 := Aside0.mk hn
          clear hn hC hA L12 N12
          obtain ⟨m2, m3, e1, hm2, hm3⟩ := R_one L13.out.M
          injection e1 with e1 e2 e3
          injection e1 with e1
          injection e1 with e1
          subst e1; subst e3
          have d0 := (blk_cell L13.out.K 0).trans rfl
          have d1 := (blk_cell L13.out.K 1).trans rfl
          have d2 := (blk_cell L13.out.K 2).trans rfl
          go_wp2_with fail
          (with_reducible refine (RestartL_calls b0 f g 3 5 2 3 0 H8 _ _ _ L13.out.F L13.out.S.2 (by decide) lv_right).mono ?_); rintro e w14 ⟨H9, rfl, hF, hC⟩
          rw [lv_restart]
          have L14 := Aside0.mk (L13.out.field hF hC)
          have N14 : Aside0 (NdAt w14 q 5 2 3 1 (tickN (waitV 5 2 3 1) 3 1 [0] (lvN 8)).2) := ⟨hC.blk N13.out HQ.out.1⟩
          clear d0 d1 d2 hF hC L13 N13 hm2 hm3
          go_wp2_with fail
          (with_reducible refine (AliveL_calls b0 f g 3 5 2 3 0 H9 _ _ _ L14.out.F (by decide)).mono ?_); rintro e w15 ⟨rfl, hd⟩
          rw [lv_alive]
          have L15 := Aside0.mk (L14.out.below hd.below)
          have N15 : Aside0 (NdAt w15 q 5 2 3 1 (tickN (waitV 5 2 3 1) 3 1 [0] (lvN 8)).2) := ⟨blk_below N14.out hd.below⟩
          clear hd L14 N14
          go_wp2_with fail
          (with_reducible refine (Master_calls q 5 2 3 1 _ _ N15.out).mono ?_); rintro e w16 ⟨rfl, hd⟩
          rw [lv_hears.1]
          have L16 := Aside0.mk (L15.out.below hd.below)
          have N16 : Aside0 (NdAt w16 q 5 2 3 1 (tickN (waitV 5 2 3 1) 3 1 [0] (lvN 8)).2) := ⟨blk_below N15.out hd.below⟩
          clear hd L15 N15
          go_wp2_with fail
          (with_reducible refine (Idle_calls q 5 2 3 1 _ _ N16.out).mono ?_); rintro e w17 ⟨rfl, hd⟩
          rw [lv_hears.2]
          have L17 := Aside0.mk (L16.out.below hd.below)
          have N17 : Aside0 (NdAt w17 q 5 2 3 1 (tickN (waitV 5 2 3 1) 3 1 [0] (lvN 8)).2) := ⟨blk_below N16.out hd.below⟩
          clear hd L16 N16
          go_wp2_with fail
          (with_reducible refine (Rank_calls q 5 2 3 1 _ _ N17.out).mono ?_); rintro e w18 ⟨rfl, hd⟩
          have L18 := Aside0.mk (L17.out.below hd.below)
          clear hd L17 N17
          have d0 := (blk_cell L18.out.K 0).trans rfl
          have d1 := (blk_cell L18.out.K 1).trans rfl
          have d2 := (blk_cell L18.out.K 2).trans rfl
          go_wp2_with fail
          (with_reducible refine (rank_Wait.calls 5 2 3 1 7 _ (by decide +kernel)).mono ?_); rintro e w19 ⟨rfl, hd⟩
          have L19 := Aside0.mk (L18.out.below hd)
          clear hd L18 d0 d1 d2
          have d0 := (blk_cell L19.out.K 0).trans rfl
          have d1 := (blk_cell L19.out.K 1).trans rfl
          have d2 := (blk_cell L19.out.K 2).trans rfl
          go_wp2_with fail
          (with_reducible refine (rank_Window.calls 5 2 3 3 0 22 _ (by decide +kernel)).mono ?_); rintro e w20 ⟨rfl, hd⟩
          have L20 := Aside0.mk (L19.out.below hd)
          clear hd L19 d0 d1 d2
          have d0 := (blk_cell L20.out.K 0).trans rfl
          have d1 := (blk_cell L20.out.K 1).trans rfl
          have d2 := (blk_cell L20.out.K 2).trans rfl
          go_wp2_with fail
          (with_reducible refine (rank_Right.calls 5 2 3 true _ (by decide +kernel)).mono ?_); rintro e w21 ⟨rfl, hd⟩
          have L21 : Aside0 (Below w.heap.size w w21) := ⟨below_step L20.out.B hd⟩
          clear hd L20 d0 d1 d2
          go_wp2_with fail
          (with_reducible refine (Crash_nil 0 _).mono ?_); rintro e w22 ⟨rfl, hd⟩
          have L22 : Aside0 (Below w.heap.size w w22) := ⟨below_step L21.out hd.below⟩
          clear hd L21
          go_wp2_with fail
          (with_reducible refine (Masters_nil _).mono ?_); rintro e w23 ⟨rfl, hd⟩
          have L23 : Aside0 (Below w.heap.size w w23) := ⟨below_step L22.out hd.below⟩
          clear hd L22
          go_wp2_with fail
          (with_reducible refine (Rank_nil _).mono ?_); rintro e w24 ⟨rfl, hd⟩
          have L24 : Aside0 (Below w.heap.size w w24) := ⟨below_step L23.out hd.below⟩
          clear hd L23
          go_wp2_with fail
          (with_reducible refine (Tick_nil _ _).mono ?_); rintro e w25 ⟨rfl, hd⟩
          have L25 : Aside0 (Below w.heap.size w w25) := ⟨below_step (below_alloc L24.out _) hd.below⟩
          clear hd L24
          go_wp2_with fail
          go_ret
          exact ⟨rfl, L25.out⟩
end Go.Proofs.Ytcgkbbfnlbjblaa.P
