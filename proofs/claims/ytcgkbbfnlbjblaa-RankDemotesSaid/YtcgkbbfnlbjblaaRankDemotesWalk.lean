/- Of two masters, without a loss, the worse one is none behind a period and two ticks: the walk. Condition: the acts can be read. -/
import Derived.Test.YtcgkbbfnlbjblaaRankLaw
namespace Go.Proofs.Ytcgkbbfnlbjblaa.P
open Go.RowKit Go.Proofs.YtcgkbbfnlbjblaaW.PrintWords Go.Proofs.YtcgkbbfnlbjblaaW.PrintLast Go.Proofs.YtcgkbbfnlbjblaaW.PrintMore
set_option linter.unusedVariables false
set_option linter.unusedSimpArgs false
def dmL (b s p : Int) (L : Nat → Option Nd) (T : List Int) (t : Nat) : Nat → Option Nd := (runS (WJ b s p) p 5 (fun _ => false) L T t).1
def dmT (b s p : Int) (L : Nat → Option Nd) (T : List Int) (t : Nat) : List Int := (runS (WJ b s p) p 5 (fun _ => false) L T t).2
def dmM (b s p : Int) (L : Nat → Option Nd) (T : List Int) (t : Nat) : List Int := toldL (fun j => mO (dmL b s p L T t j)) 5
theorem dm_law {b s p : Int} (hr : rightB b s p = true) {L : Nat → Option Nd} {T : List Int} (ok : FOk (WJ b s p) p 5 L) (t : Nat) (ht : p < (t : Int)) (hm : ¬ (dmM b s p L T 1).length = 0) :
    0 < (dmM b s p L T (t + 1)).length ∧ ∀ i : Int, 0 ≤ i → i < (dmM b s p L T (t + 1)).length → rd (dmM b s p L T (t + 1)) i ≤ rd (dmM b s p L T 1) 0 := by
  obtain ⟨x, hx⟩ : ∃ x, x ∈ dmM b s p L T 1 := by
    cases e : dmM b s p L T 1 with
    | nil => rw [e] at hm; exact absurd rfl hm
    | cons x r => exact ⟨x, List.mem_cons_self⟩
  obtain ⟨j, hj, hjm, rfl⟩ := mem_toldL.1 hx
  obtain ⟨a, haj, ham, hal⟩ := least (f := fun j => mO (dmL b s p L T 1 j)) hjm
  have han : a < 5 := by omega
  obtain ⟨r, er⟩ := toldL_first (f := fun j => mO (dmL b s p L T 1 j)) ham han hal
  have e0 : rd (dmM b s p L T 1) 0 = (a : Int) := by
    unfold dmM
    rw [er]
    rfl
  have pr := right_of hr
  obtain ⟨⟨c, hc, hcm⟩, hall⟩ := Demotes_law (T := T) han ham hal ok (fun j hj => by have := WJ_ge hr j hj; omega) pr.1 t ht
  rw [e0]
  refine ⟨?_, fun i i0 i1 => ?_⟩
  · have : (c : Int) ∈ dmM b s p L T (t + 1) := mem_toldL.2 ⟨c, hc, hcm, rfl⟩
    exact List.length_pos_of_mem this
  · have hmem : rd (dmM b s p L T (t + 1)) i ∈ dmM b s p L T (t + 1) := by
      unfold rd
      rw [List.getD_eq_getElem?_getD, List.getElem?_eq_getElem (show i.toNat < _ by omega)]
      exact List.getElem_mem _
    obtain ⟨j2, h1, h2, h3⟩ := mem_toldL.1 hmem
    have := hall j2 h1 h2
    omega
theorem Open5 (b s p : Int) (w : World) (h : rightB b s p = true) : Calls Try.prog 23 #[.agg #[.int .i64 b, .int .i64 s, .int .i64 p], .int .i64 5] w fun e w' => ∃ f g H, e = .returned (.tuple #[.pointer (some ⟨f, 0, none⟩), .int .i64 0]) ∧ Fld w' w.heap.size f g b s p 5 H (openL 5) [] ∧ Below w.heap.size w w' :=
  Open_yes b s p 5 w h (by decide) (by decide)
theorem dmM_len (b s p : Int) (L : Nat → Option Nd) (T : List Int) (t : Nat) : (dmM b s p L T t).length ≤ 5 := toldL_len _ 5
set_option maxHeartbeats 16000000 in
set_option maxRecDepth 100000 in
theorem Demotes_core (b0 s0 p0 b s p : Int) (A : Option Addr) (len cap : Nat) (w : World) (h : Acts3 w A len) (hl : len ≤ maxLen) (eb : smB b0 0 = b) (es : smS s0 = s) (ep : smP p0 = p) :
    Calls Try.prog 7 #[.agg #[.int .i64 b0, .int .i64 s0, .int .i64 p0], .slice A len cap] w fun e w' => e = .returned (.bool true) ∧ Below w.heap.size w w' := by
  have hu23 := Try.underlying23
  have hu58 := Try.underlying58
  have HR : Aside0 (rightB b s p = true) := ⟨by rw [← eb, ← es, ← ep]; exact sm_right b0 s0 p0 0 (by decide) (by decide)⟩
  have HP : Aside0 (1 ≤ p ∧ p ≤ 5) := ⟨by have := sm_range b0 s0 p0 0 (by decide); omega⟩
  have HS : Aside0 (partV b0 10 + (0 + 2) * 6 = b ∧ partV s0 6 + 1 = s ∧ partV p0 5 + 1 = p) := ⟨⟨eb, es, ep⟩⟩
  have HROW := Aside0.mk h
  have HLEN := Aside0.mk hl
  clear h hl eb es ep
  have BK0 : Aside0 ((w.alloc (.cells #[.int .i64 b0, .int .i64 s0, .int .i64 p0] 23)).heap[w.heap.size]? = some (.cells #[.int .i64 b0, .int .i64 s0, .int .i64 p0] 23 (0, 0))) := ⟨blk_new _ _⟩
  have B0 : Aside0 (Below w.heap.size w (w.alloc (.cells #[.int .i64 b0, .int .i64 s0, .int .i64 p0] 23))) := ⟨below_alloc (Below.refl _ _) _⟩
  have c0 := (blk_cell BK0.out 0).trans rfl
  have c1 := (blk_cell BK0.out 1).trans rfl
  have c2 := (blk_cell BK0.out 2).trans rfl
  go_enter Try.func7, Try.ntmps7
  go_wp2_with fail
  (with_reducible refine (Small_calls b0 s0 p0 0 _ (by decide) (by decide)).mono ?_); rintro e w1 ⟨rfl, hb⟩
  rw [HS.out.1, HS.out.2.1, HS.out.2.2]
  have BK1 : Aside0 (w1.heap[w.heap.size]? = some (.cells #[.int .i64 b0, .int .i64 s0, .int .i64 p0] 23 (0, 0))) := ⟨blk_below BK0.out hb⟩
  have B1 : Aside0 (Below w.heap.size w w1) := ⟨below_step B0.out hb⟩
  clear hb c0 c1 c2 BK0 B0
  have c0 := (blk_cell BK1.out 0).trans rfl
  have c1 := (blk_cell BK1.out 1).trans rfl
  have c2 := (blk_cell BK1.out 2).trans rfl
  have f0 := blk_frozen BK1.out 0
  have f1 := blk_frozen BK1.out 1
  have f2 := blk_frozen BK1.out 2
  obtain ⟨K2, B2⟩ := box_put BK1.out (.int .i64 b) (.int .i64 s) (.int .i64 p) B1.out
  have BK2 := Aside0.mk K2
  have B2 := Aside0.mk B2
  have d0 := (blk_cell BK2.out 0).trans rfl
  have d1 := (blk_cell BK2.out 1).trans rfl
  have d2 := (blk_cell BK2.out 2).trans rfl
  clear K2
  go_wp2_with fail
  (with_reducible refine (Open5 b s p _ HR.out).mono ?_); rintro e w2 ⟨f, g, H, rfl, hf, hb⟩
  have D0 : Aside0 (DS w w2 _ f g b s p H (openL 5) []) := ⟨⟨hf, FOk.opened _ _ _ _ (fun j _ => WJ_nn b s p j) HP.out.1, blk_below BK2.out hb, below_step B2.out hb, blk_lt BK2.out, hb.size⟩⟩
  clear hf hb c0 c1 c2 f0 f1 f2 d0 d1 d2 BK1 B1 BK2 B2
  generalize ((w1.setCell ⟨w.heap.size, 0, none⟩ (.int .i64 b)).setCell ⟨w.heap.size, 1, none⟩ (.int .i64 s)).setCell ⟨w.heap.size, 2, none⟩ (.int .i64 p) = wx at D0
  generalize wx.heap.size = base at D0
  go_wp2_with fail
  go_loopg [8] 40 (fun kq v8 w' => ∃ (i : Int) (H1 : Nat → Option Nat) (L1 : Nat → Option Nd) (T1 : List Int), v8 = .int .i64 i ∧ Aside0 (0 ≤ i ∧ i + kq = 40) ∧ Aside0 (DS w w' base f g b s p H1 L1 T1))
  case atStart => exact ⟨0, H, _, _, rfl, ⟨by omega⟩, D0⟩
  case round =>
    obtain ⟨i, H1, L1, T1, rfl, HI, D1⟩ := hrel
    clear D0
    by_cases t : i < (len : Int) ∧ i < 40
    · obtain ⟨t1, t2⟩ := t
      have u1 : decide (i < (len : Int)) = true := decide_eq_true t1
      have u2 : decide (i < 40) = true := decide_eq_true t2
      obtain ⟨k1, rfl⟩ : ∃ k1, gk = k1 + 1 := ⟨gk - 1, by have := HI.out; omega⟩
      have hlt : i.toNat < len := by have := HI.out; omega
      obtain ⟨ad, _, _, _, rfl, _⟩ := HROW.out i.toNat hlt
      obtain ⟨z0, z1, z2, a0, a1, a2⟩ := HROW.out.at_ D1.out.B i.toNat hlt
      have HI' : Aside0 (0 ≤ i + 1 ∧ i + 1 + k1 = 40) := ⟨by have := HI.out; omega⟩
      have hi1 : wrap64 (i + 1) = i + 1 := i64w _ (by have := HI.out; omega) (by have := HI.out; omega)
      have q0 : (0 ≤ i) = True := eq_true HI.out.1
      have q1 : (i < (len : Int)) = True := eq_true t1
      clear t1 t2 hlt
      go_wp2_with fail
      (with_reducible refine (Do_calls _ base f g b s p z0 z1 z2 H1 L1 T1 D1.out.fx HR.out).mono ?_); rintro e w3 ⟨⟨v3, rfl⟩, H2, L2, T2, hx⟩
      have D2 := Aside0.mk (D1.out.go hx)
      clear hx
      go_wp2_with fail
      go_roundg k1
      case measure => omega
      case rel => exact ⟨i + 1, H2, L2, T2, by first | rw [hi1] | rfl, HI', D2⟩
    · have fin : ∀ (u1 : (decide (i < (len : Int)) && decide (i < 40)) = false), True := fun _ => trivial
      obtain ⟨t1, u1, u2⟩ : ∃ t1 : Bool, decide (i < (len : Int)) = t1 ∧ (t1 = true → decide (i < 40) = false) := ⟨_, rfl, fun q => decide_eq_false (fun q2 => t ⟨of_decide_eq_true q, q2⟩)⟩
      clear fin t
      have NEXT : Aside0 (t1 = true → decide (i < 40) = false) := ⟨u2⟩
      clear u2
      cases t1
      all_goals (try have u2 : decide (i < 40) = false := NEXT.out rfl)
      all_goals clear NEXT
      all_goals go_wp2_with fail
      all_goals ((with_reducible refine (FTickL_calls false base f g 5 b s p H1 L1 T1 _ D1.out.fld D1.out.hb (by decide) HR.out D1.out.ok).mono ?_); rintro e w3 ⟨⟨v3, rfl⟩, hf, hc⟩)
      all_goals (have D2 : Aside0 (DS w w3 base f g b s p H1 (dmL b s p L1 T1 1) (dmT b s p L1 T1 1)) := ⟨D1.out.tick HR.out false hf hc⟩)
      all_goals clear hf hc
      all_goals
        go_wp2_with fail
        (with_reducible refine (Masters_calls base f g 5 b s p H1 _ _ _ D2.out.fld (by decide)).mono ?_); rintro e w4 ⟨v, rfl, hR, hb⟩
        obtain ⟨A1, c1, rfl⟩ := R_slice' hR
        have D3 := Aside0.mk (D2.out.below hb)
        have R3 : Aside0 (Kd.R (Kd.int .i64) 3 w4 w3.heap.size (fun _ => True) (.slice A1 (dmM b s p L1 T1 1).length c1) (dmM b s p L1 T1 1)) := ⟨hR⟩
        have e1 : (toldL (fun j => mO (dmL b s p L1 T1 1 j)) 5).length = (dmM b s p L1 T1 1).length := rfl
        rw [e1]
        clear e1 hR hb D2
        generalize w3.heap.size = b3 at R3
        go_wp2_with fail
        go_loopg [10] (p + 2).toNat (fun kq v10 w' => ∃ (t : Nat), v10 = .int .i64 (t : Int) ∧ Aside0 ((t : Int) + kq = p + 2) ∧ Aside0 (DS w w' base f g b s p H1 (dmL b s p L1 T1 (t + 1)) (dmT b s p L1 T1 (t + 1))) ∧ Aside0 (Kd.R (Kd.int .i64) 3 w' b3 (fun _ => True) (.slice A1 (dmM b s p L1 T1 1).length c1) (dmM b s p L1 T1 1)))
        case atStart => exact ⟨0, rfl, ⟨by have := HP.out; omega⟩, D3, R3⟩
        case round =>
          obtain ⟨t, rfl, HT, D4, R4⟩ := hrel
          clear D3 R3
          obtain ⟨c0, c1', c2⟩ := D4.out.cells
          have ep2 : wrap64 (p + 2) = p + 2 := i64w _ (by have := HP.out; omega) (by have := HP.out; omega)
          cases gk with
          | succ k1 =>
            have u3 : decide ((t : Int) < p + 2) = true := decide_eq_true (by have := HT.out; omega)
            have HT' : Aside0 (((t + 1 : Nat) : Int) + k1 = p + 2) := ⟨by have := HT.out; omega⟩
            have ht1 : wrap64 ((t : Int) + 1) = ((t + 1 : Nat) : Int) := by rw [i64w _ (by omega) (by have := HT.out; have := HP.out; omega)]; rfl
            go_wp2_with fail
            (with_reducible refine (FTickL_calls false base f g 5 b s p H1 _ _ _ D4.out.fld D4.out.hb (by decide) HR.out D4.out.ok).mono ?_); rintro e w5 ⟨⟨v5, rfl⟩, hf, hc⟩
            have D5 : Aside0 (DS w w5 base f g b s p H1 (dmL b s p L1 T1 (t + 1 + 1)) (dmT b s p L1 T1 (t + 1 + 1))) := ⟨D4.out.tick HR.out false hf hc⟩
            have R5 := Aside0.mk (R_ch R4.out hc (Fld.not3 D4.out.fld))
            clear hf hc
            go_wp2_with fail
            go_roundg k1
            case measure => omega
            case rel => exact ⟨t + 1, by first | rw [ht1] | rfl, HT', D5, R5⟩
          | zero =>
            have u3 : decide ((t : Int) < p + 2) = false := decide_eq_false (by have := HT.out; omega)
            have HT2 : Aside0 (p < (t : Int)) := ⟨by have := HT.out; omega⟩
            go_wp2_with fail
            (with_reducible refine (Masters_calls base f g 5 b s p H1 _ _ _ D4.out.fld (by decide)).mono ?_); rintro e w5 ⟨v5, rfl, hR5, hb⟩
            obtain ⟨A2, c5, rfl⟩ := R_slice' hR5
            have D5 := Aside0.mk (D4.out.below hb)
            have R5 := Aside0.mk (Kd.R_below R4.out hb)
            have R6 : Aside0 (Kd.R (Kd.int .i64) 3 w5 _ (fun _ => True) (.slice A2 (dmM b s p L1 T1 (t + 1)).length c5) (dmM b s p L1 T1 (t + 1))) := ⟨hR5⟩
            have e1 : (toldL (fun j => mO (dmL b s p L1 T1 (t + 1) j)) 5).length = (dmM b s p L1 T1 (t + 1)).length := rfl
            rw [e1]
            clear e1 hR5 hb
            have n1 := dmM_len b s p L1 T1 1
            have n2 := dmM_len b s p L1 T1 (t + 1)
            by_cases hz : (dmM b s p L1 T1 1).length = 0
            · have z1 : (((dmM b s p L1 T1 1).length : Int) == 0) = true := beq_iff_eq.mpr (by omega)
              have z2 := eq_true hz
              have z3 : (((dmM b s p L1 T1 1).length : Int) = 0) = True := eq_true (by omega)
              clear hz
              go_wp2_with fail
              (with_reducible refine (live_calls _).mono ?_); rintro e w6 ⟨rfl, hb⟩
              go_wp2_with fail
              go_ret
              exact ⟨rfl, below_step D5.out.B hb⟩
            · have z1 : (((dmM b s p L1 T1 1).length : Int) == 0) = false := beq_eq_false_iff_ne.mpr (by omega)
              have z2 := eq_false hz
              have z3 : (((dmM b s p L1 T1 1).length : Int) = 0) = False := eq_false (by omega)
              obtain ⟨l0, l1⟩ := dm_law HR.out D1.out.ok t HT2.out hz
              have LAW := Aside0.mk (And.intro l0 l1)
              clear l0 l1 hz
              have p1 : decide (0 < (dmM b s p L1 T1 (t + 1)).length) = true := decide_eq_true LAW.out.1
              have p2 : decide (((dmM b s p L1 T1 (t + 1)).length : Int) > 0) = true := decide_eq_true (by have := LAW.out.1; omega)
              have p3 : decide ((0 : Int) < ((dmM b s p L1 T1 (t + 1)).length : Int)) = true := decide_eq_true (by have := LAW.out.1; omega)
              have N1 : Aside0 (0 < (dmM b s p L1 T1 1).length) := ⟨by
                rcases Nat.eq_zero_or_pos (dmM b s p L1 T1 1).length with e | e
                · have := z2.mp e; exact this.elim
                · exact e⟩
              have N2 := Aside0.mk n2
              have y0 : ((0 : Int) < ((dmM b s p L1 T1 1).length : Int)) = True := eq_true (by have := N1.out; omega)
              have y1 : (0 < (dmM b s p L1 T1 1).length) = True := eq_true N1.out
              clear c0 c1' c2 n1 n2
              go_wp2_with fail
              go_loopg [12] (dmM b s p L1 T1 (t + 1)).length (fun kq v12 w' => ∃ i : Nat, v12 = .int .i64 (i : Int) ∧ Aside0 (i + kq = (dmM b s p L1 T1 (t + 1)).length) ∧ Aside0 (Drawn0 w5 w'))
              case atStart => exact ⟨0, rfl, ⟨by omega⟩, ⟨Drawn0.refl _⟩⟩
              case round =>
                obtain ⟨i, rfl, HX, HD⟩ := hrel
                have D6 := Aside0.mk (D5.out.below (Drawn0.below HD.out))
                have R7 := Aside0.mk (Kd.R_below R5.out (Drawn0.below HD.out))
                have R8 := Aside0.mk (Kd.R_below R6.out (Drawn0.below HD.out))
                cases gk with
                | zero =>
                  have x1 : decide ((i : Int) < ((dmM b s p L1 T1 (t + 1)).length : Int)) = false := decide_eq_false (by have := HX.out; omega)
                  have x2 : decide (i < (dmM b s p L1 T1 (t + 1)).length) = false := decide_eq_false (by have := HX.out; omega)
                  go_wp2_with fail
                  (with_reducible refine (live_calls _).mono ?_); rintro e w6 ⟨rfl, hb⟩
                  go_wp2_with fail
                  go_ret
                  exact ⟨rfl, below_step D6.out.B hb⟩
                | succ k1 =>
                  have hi : i < (dmM b s p L1 T1 (t + 1)).length := by have := HX.out; omega
                  have x1 : decide ((i : Int) < ((dmM b s p L1 T1 (t + 1)).length : Int)) = true := decide_eq_true (by omega)
                  have x2 : decide (i < (dmM b s p L1 T1 (t + 1)).length) = true := decide_eq_true hi
                  have HX' : Aside0 (i + 1 + k1 = (dmM b s p L1 T1 (t + 1)).length) := ⟨by have := HX.out; omega⟩
                  have hi1 : wrap64 ((i : Int) + 1) = ((i + 1 : Nat) : Int) := by rw [i64w _ (by omega) (by have := N2.out; omega)]; rfl
                  have y2 : ((i : Int) < ((dmM b s p L1 T1 (t + 1)).length : Int)) = True := eq_true (by omega)
                  have y3 : (i < (dmM b s p L1 T1 (t + 1)).length) = True := eq_true hi
                  have y4 : (0 ≤ (i : Int)) = True := eq_true (by omega)
                  have le := LAW.out.2 (i : Int) (by omega) (by omega)
                  have x3 : decide (rd (dmM b s p L1 T1 (t + 1)) (i : Int) > rd (dmM b s p L1 T1 1) 0) = false := decide_eq_false (by omega)
                  have x4 : decide (rd (dmM b s p L1 T1 1) 0 < rd (dmM b s p L1 T1 (t + 1)) (i : Int)) = false := decide_eq_false (by omega)
                  obtain ⟨ad2, e2, g2⟩ := R_at R8.out (i : Int) (by omega) (by omega)
                  obtain ⟨ad1, e1, g1⟩ := R_at R7.out 0 (by decide) (by have := N1.out; omega)
                  subst e1
                  subst e2
                  rw [show ((i : Int)).toNat = i from Int.toNat_natCast i] at g2
                  rw [show (0 : Int).toNat = 0 from rfl] at g1
                  have g3 := g1
                  rw [show ad1.add 0 = ad1 from by simp [Addr.add]] at g3
                  clear le hi
                  go_wp2_with fail
                  repeat (go_quiet (fail); try go_wp2)
                  go_roundg k1
                  case measure => omega
                  case rel => exact ⟨i + 1, by first | rw [hi1] | rfl, HX', ⟨by have := HD.out; repeat (first | exact this | apply Drawn0.step)⟩⟩
theorem RankDemotes_walk (b s p : Int) (A : Option Addr) (len cap : Nat) (w : World) (w0 : (Lit.int .i64 b).wf = true) (w1 : (Lit.int .i64 s).wf = true) (w2 : (Lit.int .i64 p).wf = true)
    (h : (A = none ∧ len = 0 ∧ cap = 0) ∨ ∃ x, A = some x ∧ len ≤ cap ∧ cap ≤ maxLen ∧ ∀ i, i < len → ∃ (z0 : Int) (z1 : Int) (z2 : Int), w.cell? (x.add (i * 3 + 0)) = some (.int .i64 z0) ∧ w.cell? (x.add (i * 3 + 1)) = some (.int .i64 z1) ∧ w.cell? (x.add (i * 3 + 2)) = some (.int .i64 z2) ∧ (Lit.int .i64 z0).wf = true ∧ (Lit.int .i64 z1).wf = true ∧ (Lit.int .i64 z2).wf = true) :
    Calls Try.prog 7 #[.agg #[.int .i64 b, .int .i64 s, .int .i64 p], .slice A len cap] w fun e w' => e = .returned (.bool true) ∧ Below w.heap.size w w' :=
  Demotes_core b s p _ _ _ A len cap w (acts3_row h).1 (acts3_row h).2 rfl rfl rfl
end Go.Proofs.Ytcgkbbfnlbjblaa.P
