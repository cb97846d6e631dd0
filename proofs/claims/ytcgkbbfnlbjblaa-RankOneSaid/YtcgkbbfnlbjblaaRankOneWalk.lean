/- Whatever was ahead, behind the window just the best node that is on is master: the walk. Conditions: the acts and the lost turns can be read. -/
import Derived.Test.YtcgkbbfnlbjblaaRankLaw
import Derived.Test.YtcgkbbfnlbjblaaRankWaitsWalk
namespace Go.Proofs.Ytcgkbbfnlbjblaa.P
open Go.RowKit Go.Proofs.YtcgkbbfnlbjblaaW.PrintWords Go.Proofs.YtcgkbbfnlbjblaaW.PrintLast Go.Proofs.YtcgkbbfnlbjblaaW.PrintMore
set_option linter.unusedVariables false
set_option linter.unusedSimpArgs false
def lostV (zs : List Int) (k : Nat) (m : Int) : List Int := (List.range k).map fun i : Nat => Int.tmod (rd zs (i : Int)) m
def awF (zs : List Int) (k : Nat) (m : Int) (t : Nat) : Bool := (lostV zs k m).any (fun v => v == (t : Int))
theorem awF_zero (zs : List Int) (m : Int) (t : Nat) : awF zs 0 m t = false := rfl
theorem awF_succ (zs : List Int) (i : Nat) (m : Int) (t : Nat) : awF zs (i + 1) m t = (awF zs i m t || (Int.tmod (rd zs (i : Int)) m == (t : Int))) := by
  unfold awF lostV
  rw [List.range_succ, List.map_append, List.any_append]
  simp
def Lost (w : World) (A : Option Addr) (k : Nat) (zs : List Int) : Prop := ∀ i, i < k → ∃ ad, A = some ad ∧ w.cell? (ad.add i) = some (.int .u16 (rd zs (i : Int))) ∧ 0 ≤ rd zs (i : Int) ∧ rd zs (i : Int) ≤ 65535
theorem Lost.at_ {w w1 : World} {ad : Addr} {k : Nat} {zs : List Int} (h : Lost w (some ad) k zs) (hb : Below w.heap.size w w1) (i : Nat) (hi : i < k) : w1.cell? (ad.add i) = some (.int .u16 (rd zs (i : Int))) := by
  obtain ⟨ad', e, hc, _⟩ := h i hi
  cases e
  exact pw_cell_below hb hc
def onL (zs : List Int) (k : Nat) (m b s p : Int) (L : Nat → Option Nd) (T : List Int) (t : Nat) : Nat → Option Nd := (runS (WJ b s p) p 5 (awF zs k m) L T t).1
def onT (zs : List Int) (k : Nat) (m b s p : Int) (L : Nat → Option Nd) (T : List Int) (t : Nat) : List Int := (runS (WJ b s p) p 5 (awF zs k m) L T t).2
def onM (zs : List Int) (k : Nat) (m b s p : Int) (L : Nat → Option Nd) (T : List Int) (t : Nat) : List Int := toldL (fun j => mO (onL zs k m b s p L T t j)) 5
def Best (L : Nat → Option Nd) (kk bv : Int) : Prop := (bv = -1 ∧ ∀ j : Nat, kk < j → j < 5 → L j = none) ∨ ∃ β : Nat, bv = (β : Int) ∧ kk < β ∧ β < 5 ∧ (L β).isSome = true ∧ ∀ j : Nat, kk < j → j < β → L j = none
theorem Best.next {L : Nat → Option Nd} {kk bv : Int} (h : Best L kk bv) (k0 : 0 ≤ kk) (k1 : kk < 5) : Best L (kk - 1) (if aliveL 5 L kk = true then kk else bv) := by
  have e : aliveL 5 L kk = (L kk.toNat).isSome := by
    unfold aliveL
    rw [decide_eq_true (show 0 ≤ kk ∧ kk < ((5 : Nat) : Int) by omega), Bool.true_and]
  have hk : ((kk.toNat : Nat) : Int) = kk := Int.toNat_of_nonneg k0
  rw [e]
  by_cases ha : (L kk.toNat).isSome = true
  · rw [if_pos ha]
    exact .inr ⟨kk.toNat, hk.symm, by omega, by omega, ha, fun j h1 h2 => by omega⟩
  · rw [if_neg ha]
    have hn : L kk.toNat = none := by
      cases q : L kk.toNat with
      | none => rfl
      | some x => rw [q] at ha; exact absurd rfl ha
    have key : ∀ j : Nat, kk - 1 < j → ¬ kk < j → L j = none := fun j h1 h2 => by
      have : j = kk.toNat := by omega
      rw [this]
      exact hn
    rcases h with ⟨h1, h2⟩ | ⟨β, h1, h2, h3, h4, h5⟩
    · exact .inl ⟨h1, fun j a1 a2 => by by_cases q : kk < j; exact h2 j q a2; exact key j a1 q⟩
    · exact .inr ⟨β, h1, by omega, h3, h4, fun j a1 a2 => by by_cases q : kk < j; exact h5 j q a2; exact key j a1 q⟩
theorem on_law {zs : List Int} {k : Nat} {m b s p bv : Int} (hr : rightB b s p = true) (hk : ((k : Int) + 2) * 6 ≤ b) (hp : p ≤ 5) {L : Nat → Option Nd} {T : List Int} (ok : FOk (WJ b s p) p 5 L) (hb : Best L (-1) bv) (t : Nat) (ht : b + 4 * s + ((k : Int) + 3) * p + 4 ≤ (t : Int)) :
    (bv < 0 ∧ onM zs k m b s p L T (t + 1) = []) ∨ (0 ≤ bv ∧ onM zs k m b s p L T (t + 1) = [bv]) := by
  have pr := right_of hr
  rcases hb with ⟨h1, h2⟩ | ⟨β, h1, h2, h3, h4, h5⟩
  · exact .inl ⟨by omega, None_law (fun j hj => h2 j (by omega) hj) (t + 1)⟩
  · refine .inr ⟨by omega, ?_⟩
    obtain ⟨x0, hx0⟩ := Option.isSome_iff_exists.1 h4
    have wb := WJ_ge hr β h3
    have hkp : ((k : Int) + 1) * p ≤ ((k : Int) + 1) * 5 := Int.mul_le_mul_of_nonneg_left hp (by omega)
    have hl : (lostV zs k m).length = k := by simp [lostV]
    have e3 : ((k : Int) + 3) * p = ((k : Int) + 1) * p + 2 * p := by rw [← Int.add_mul]; congr 1
    have := One_law (W := WJ b s p) (p := p) (n := 5) (aw := awF zs k m) (L := L) (T := T) (vs := lostV zs k m) h3 hx0 (fun j hj => h5 j (by omega) hj) ok
      (fun j hj => by rw [hl]; have := WJ_ge hr j hj; omega) pr.1 (fun _ => rfl) t (by rw [hl]; omega)
    rw [h1]
    exact this
theorem onM_len (zs : List Int) (k : Nat) (m b s p : Int) (L : Nat → Option Nd) (T : List Int) (t : Nat) : (onM zs k m b s p L T t).length ≤ 5 := toldL_len _ 5
theorem Open5' (b s p : Int) (w : World) (h : rightB b s p = true) : Calls Try.prog 23 #[.agg #[.int .i64 b, .int .i64 s, .int .i64 p], .int .i64 5] w fun e w' => ∃ f g H, e = .returned (.tuple #[.pointer (some ⟨f, 0, none⟩), .int .i64 0]) ∧ Fld w' w.heap.size f g b s p 5 H (openL 5) [] ∧ Below w.heap.size w w' :=
  Open_yes b s p 5 w h (by decide) (by decide)
set_option maxHeartbeats 16000000 in
set_option maxRecDepth 100000 in
theorem One_few (b0 s0 p0 b s p wv m : Int) (A A2 : Option Addr) (len cap len2 cap2 : Nat) (zs : List Int) (w : World) (h : Acts3 w A len) (hl : len ≤ maxLen) (h4 : len2 ≤ 4) (hz : Lost w A2 len2 zs) (eb : smB b0 (len2 : Int) = b) (es : smS s0 = s) (ep : smP p0 = p) (ew : winV b s p 5 (len2 : Int) = wv) (em : 3 * wv = m) :
    Calls Try.prog 6 #[.agg #[.int .i64 b0, .int .i64 s0, .int .i64 p0], .slice A len cap, .slice A2 len2 cap2] w fun e w' => e = .returned (.bool true) ∧ Below w.heap.size w w' := by
  have hu23 := Try.underlying23
  have hu58 := Try.underlying58
  have hu72 := Try.underlying72
  have hu3 := Try.underlying3
  have HR : Aside0 (rightB b s p = true) := ⟨by rw [← eb, ← es, ← ep]; exact sm_right b0 s0 p0 (len2 : Int) (by omega) (by omega)⟩
  have HQ : Aside0 (((len2 : Nat) : Int) + 2 ≤ 6 ∧ (((len2 : Nat) : Int) + 2) * 6 ≤ b ∧ b ≤ 45 ∧ 1 ≤ s ∧ s ≤ 6 ∧ 1 ≤ p ∧ p ≤ 5) := ⟨by have := sm_range b0 s0 p0 (len2 : Int) (by omega); omega⟩
  have HS : Aside0 (partV b0 10 + ((len2 : Int) + 2) * 6 = b ∧ partV s0 6 + 1 = s ∧ partV p0 5 + 1 = p) := ⟨⟨eb, es, ep⟩⟩
  have HWV : Aside0 (wv = b + 4 * s + (((len2 : Nat) : Int) + 3) * p + 4) := ⟨by
    have e : winV b s p 5 (len2 : Int) = b + (5 - 1) * s + ((len2 : Int) + 3) * p + 4 := if_pos ⟨HR.out, by decide, by omega, by omega⟩
    rw [← ew, e]
    simp⟩
  have HM : Aside0 (1 ≤ wv ∧ wv ≤ 1000 ∧ m = 3 * wv) := ⟨by
    have := HQ.out
    have e := HWV.out
    have h1 : 0 ≤ (((len2 : Nat) : Int) + 3) * p := Int.mul_nonneg (by omega) (by omega)
    have h2 : (((len2 : Nat) : Int) + 3) * p ≤ (((len2 : Nat) : Int) + 3) * 5 := Int.mul_le_mul_of_nonneg_left (by omega) (by omega)
    omega⟩
  have HWIN := Aside0.mk (RefWindow_eq b s p 5 (len2 : Int) (by decide) (by decide))
  rw [ew] at HWIN
  have em3 : wrap64 (3 * wv) = m := by rw [i64w _ (by have := HM.out; omega) (by have := HM.out; omega)]; exact em
  have em0 : (m = 0) = False := eq_false (by have := HM.out; omega)
  have em1 : (m == 0) = false := beq_eq_false_iff_ne.mpr (by have := HM.out; omega)
  have HROW := Aside0.mk h
  have HLEN := Aside0.mk hl
  have HLOST := Aside0.mk hz
  have o1 : decide ((len2 : Int) > 4) = false := decide_eq_false (by omega)
  have o2 : decide (4 < len2) = false := decide_eq_false (by omega)
  have o3 : decide ((4 : Int) < (len2 : Int)) = false := decide_eq_false (by omega)
  clear h hl hz eb es ep ew em
  have BK0 : Aside0 ((w.alloc (.cells #[.int .i64 b0, .int .i64 s0, .int .i64 p0] 23)).heap[w.heap.size]? = some (.cells #[.int .i64 b0, .int .i64 s0, .int .i64 p0] 23 (0, 0))) := ⟨blk_new _ _⟩
  have B0 : Aside0 (Below w.heap.size w (w.alloc (.cells #[.int .i64 b0, .int .i64 s0, .int .i64 p0] 23))) := ⟨below_alloc (Below.refl _ _) _⟩
  have c0 := (blk_cell BK0.out 0).trans rfl
  have c1 := (blk_cell BK0.out 1).trans rfl
  have c2 := (blk_cell BK0.out 2).trans rfl
  go_enter Try.func6, Try.ntmps6
  go_wp2_with fail
  (with_reducible refine (Small_calls b0 s0 p0 (len2 : Int) _ (by omega) (by omega)).mono ?_); rintro e w1 ⟨rfl, hb⟩
  rw [HS.out.1, HS.out.2.1, HS.out.2.2]
  have BK1 : Aside0 (w1.heap[w.heap.size]? = some (.cells #[.int .i64 b0, .int .i64 s0, .int .i64 p0] 23 (0, 0))) := ⟨blk_below BK0.out hb⟩
  have B1 : Aside0 (Below w.heap.size w w1) := ⟨below_step B0.out hb⟩
  clear hb c0 c1 c2 BK0 B0
  have c0 := (blk_cell BK1.out 0).trans rfl
  have c1 := (blk_cell BK1.out 1).trans rfl
  have c2 := (blk_cell BK1.out 2).trans rfl
  have f0 := blk_frozen BK1.out 0
  have f1 := blk_frozen BK1.out 1
  have f2 := blk_frozen BK1.out 2
  obtain ⟨K2, B2⟩ := box_put BK1.out (.int .i64 b) (.int .i64 s) (.int .i64 p) B1.out
  have BK2 := Aside0.mk K2
  have B2 := Aside0.mk B2
  have d0 := (blk_cell BK2.out 0).trans rfl
  have d1 := (blk_cell BK2.out 1).trans rfl
  have d2 := (blk_cell BK2.out 2).trans rfl
  clear K2
  go_wp2_with fail
  (with_reducible refine (Open5' b s p _ HR.out).mono ?_); rintro e w2 ⟨f, g, H, rfl, hf, hb⟩
  have D0 : Aside0 (DS w w2 _ f g b s p H (openL 5) []) := ⟨⟨hf, FOk.opened _ _ _ _ (fun j _ => WJ_nn b s p j) (right_of HR.out).1, blk_below BK2.out hb, below_step B2.out hb, blk_lt BK2.out, hb.size⟩⟩
  clear hf hb c0 c1 c2 f0 f1 f2 d0 d1 d2 BK1 B1 BK2 B2
  generalize ((w1.setCell ⟨w.heap.size, 0, none⟩ (.int .i64 b)).setCell ⟨w.heap.size, 1, none⟩ (.int .i64 s)).setCell ⟨w.heap.size, 2, none⟩ (.int .i64 p) = wx at D0
  generalize wx.heap.size = base at D0
  go_wp2_with fail
  go_loopg [10] 40 (fun kq v8 w' => ∃ (i : Int) (H1 : Nat → Option Nat) (L1 : Nat → Option Nd) (T1 : List Int), v8 = .int .i64 i ∧ Aside0 (0 ≤ i ∧ i + kq = 40) ∧ Aside0 (DS w w' base f g b s p H1 L1 T1))
  case atStart => exact ⟨0, H, _, _, rfl, ⟨by omega⟩, D0⟩
  case round =>
    obtain ⟨i, H1, L1, T1, rfl, HI, D1⟩ := hrel
    clear D0
    by_cases t : i < (len : Int) ∧ i < 40
    · obtain ⟨t1, t2⟩ := t
      have u1 : decide (i < (len : Int)) = true := decide_eq_true t1
      have u2 : decide (i < 40) = true := decide_eq_true t2
      obtain ⟨k1, rfl⟩ : ∃ k1, gk = k1 + 1 := ⟨gk - 1, by have := HI.out; omega⟩
      have hlt : i.toNat < len := by have := HI.out; omega
      obtain ⟨ad, _, _, _, rfl, _⟩ := HROW.out i.toNat hlt
      obtain ⟨z0, z1, z2, a0, a1, a2⟩ := HROW.out.at_ D1.out.B i.toNat hlt
      have HI' : Aside0 (0 ≤ i + 1 ∧ i + 1 + k1 = 40) := ⟨by have := HI.out; omega⟩
      have hi1 : wrap64 (i + 1) = i + 1 := i64w _ (by have := HI.out; omega) (by have := HI.out; omega)
      have q0 : (0 ≤ i) = True := eq_true HI.out.1
      have q1 : (i < (len : Int)) = True := eq_true t1
      clear t1 t2 hlt
      go_wp2_with fail
      (with_reducible refine (Do_calls _ base f g b s p z0 z1 z2 H1 L1 T1 D1.out.fx HR.out).mono ?_); rintro e w3 ⟨⟨v3, rfl⟩, H2, L2, T2, hx⟩
      have D2 := Aside0.mk (D1.out.go hx)
      clear hx
      go_wp2_with fail
      go_roundg k1
      case measure => omega
      case rel => exact ⟨i + 1, H2, L2, T2, by first | rw [hi1] | rfl, HI', D2⟩
    · obtain ⟨t1, u1, u2⟩ : ∃ t1 : Bool, decide (i < (len : Int)) = t1 ∧ (t1 = true → decide (i < 40) = false) := ⟨_, rfl, fun q => decide_eq_false (fun q2 => t ⟨of_decide_eq_true q, q2⟩)⟩
      clear t
      have NEXT : Aside0 (t1 = true → decide (i < 40) = false) := ⟨u2⟩
      clear u2
      cases t1
      all_goals (try have u2 : decide (i < 40) = false := NEXT.out rfl)
      all_goals clear NEXT
      all_goals
        go_wp2_with fail
        go_loopg [11, 12] 5 (fun kq v11 v12 w' => ∃ bv kk : Int, v11 = .int .i64 bv ∧ v12 = .int .i64 kk ∧ Aside0 (kk + 1 = kq ∧ kk < 5 ∧ -1 ≤ bv ∧ bv < 5) ∧ Aside0 (Best L1 kk bv) ∧ Aside0 (DS w w' base f g b s p H1 L1 T1))
        case atStart => exact ⟨-1, 4, rfl, rfl, ⟨by omega⟩, ⟨.inl ⟨rfl, fun j h1 h2 => by omega⟩⟩, D1⟩
        case round =>
          obtain ⟨bv, kk, rfl, rfl, HK, HB, D2⟩ := hrel
          clear D1
          cases gk with
          | succ k1 =>
            have u3 : decide (kk ≥ 0) = true := decide_eq_true (by have := HK.out; omega)
            have u4 : decide (0 ≤ kk) = true := decide_eq_true (by have := HK.out; omega)
            have HB' := Aside0.mk (HB.out.next (by have := HK.out; omega) (by have := HK.out; omega))
            have hk1 : wrap64 (kk - 1) = kk - 1 := i64w _ (by have := HK.out; omega) (by have := HK.out; omega)
            go_wp2_with fail
            (with_reducible refine (AliveL_calls base f g 5 b s p kk H1 L1 T1 _ D2.out.fld (by decide)).mono ?_); rintro e w3 ⟨rfl, hd⟩
            have D3 := Aside0.mk (D2.out.below (Drawn0.below hd))
            clear hd
            cases ha : aliveL 5 L1 kk
            all_goals rw [ha] at HB'
            all_goals clear ha
            all_goals go_wp2_with fail
            all_goals go_roundg k1
            case measure => omega
            case rel => exact ⟨bv, kk - 1, rfl, by first | rw [hk1] | rfl, ⟨by have := HK.out; omega⟩, ⟨HB'.out⟩, D3⟩
            case measure => omega
            case rel => exact ⟨kk, kk - 1, rfl, by first | rw [hk1] | rfl, ⟨by have := HK.out; omega⟩, ⟨HB'.out⟩, D3⟩
          | zero =>
            have u3 : decide (kk ≥ 0) = false := decide_eq_false (by have := HK.out; omega)
            have u4 : decide (0 ≤ kk) = false := decide_eq_false (by have := HK.out; omega)
            have HB1 : Aside0 (Best L1 (-1) bv) := ⟨by have e : kk = -1 := (by have := HK.out; omega); have := HB.out; rwa [e] at this⟩
            have HBV : Aside0 (-1 ≤ bv ∧ bv < 5) := ⟨by have := HK.out; omega⟩
            obtain ⟨c0, c1, c2⟩ := D2.out.cells
            clear HB HK
            go_wp2_with fail
            (with_reducible refine (bellbuoylaw21_plain.calls b s p b s p _ rfl).mono ?_); rintro e w3 ⟨rfl, hb⟩
            have D3 := Aside0.mk (D2.out.below hb)
            clear hb c0 c1 c2
            go_wp2_with fail
            (with_reducible refine (bellbuoyref21_Window.calls b s p 5 (len2 : Int) wv _ HWIN.out).mono ?_); rintro e w4 ⟨rfl, hb⟩
            have D4 : Aside0 (DS w w4 base f g b s p H1 (onL zs len2 m b s p L1 T1 0) (onT zs len2 m b s p L1 T1 0)) := ⟨D3.out.below hb⟩
            have OK := Aside0.mk D3.out.ok
            clear hb
            go_wp2_with fail
            go_loopg [14] m.toNat (fun kq v14 w' => ∃ t : Nat, v14 = .int .i64 (t : Int) ∧ Aside0 ((t : Int) + kq = m) ∧ Aside0 (DS w w' base f g b s p H1 (onL zs len2 m b s p L1 T1 t) (onT zs len2 m b s p L1 T1 t)))
            case atStart => exact ⟨0, rfl, ⟨by have := HM.out; omega⟩, D4⟩
            case round =>
              obtain ⟨t, rfl, HT, D5⟩ := hrel
              clear D2 D3 D4
              cases gk with
              | zero =>
                have u5 : decide ((t : Int) < m) = false := decide_eq_false (by have := HT.out; omega)
                go_wp2_with fail
                (with_reducible refine (live_calls _).mono ?_); rintro e w6 ⟨rfl, hb⟩
                go_wp2_with fail
                go_ret
                exact ⟨rfl, below_step D5.out.B hb⟩
              | succ k1 =>
                have u5 : decide ((t : Int) < m) = true := decide_eq_true (by have := HT.out; omega)
                have HT' : Aside0 (((t + 1 : Nat) : Int) + k1 = m) := ⟨by have := HT.out; omega⟩
                have ht1 : wrap64 ((t : Int) + 1) = ((t + 1 : Nat) : Int) := by rw [i64w _ (by omega) (by have := HT.out; have := HM.out; omega)]; rfl
                go_wp2_with fail
                go_loopg [15, 16] len2 (fun kq v15 v16 w' => ∃ i : Nat, v15 = .bool (awF zs i m t) ∧ v16 = .int .i64 (i : Int) ∧ Aside0 (i + kq = len2) ∧ Aside0 (DS w w' base f g b s p H1 (onL zs len2 m b s p L1 T1 t) (onT zs len2 m b s p L1 T1 t)))
                case atStart => exact ⟨0, by rw [awF_zero], rfl, ⟨by omega⟩, D5⟩
                case round =>
                  obtain ⟨i, rfl, rfl, HX, D6⟩ := hrel
                  clear D5
                  cases gk with
                  | succ k2 =>
                    have hi : i < len2 := by have := HX.out; omega
                    have x1 : decide ((i : Int) < (len2 : Int)) = true := decide_eq_true (by omega)
                    have x2 : decide (i < len2) = true := decide_eq_true hi
                    have HX' : Aside0 (i + 1 + k2 = len2) := ⟨by have := HX.out; omega⟩
                    have hi1 : wrap64 ((i : Int) + 1) = ((i + 1 : Nat) : Int) := by rw [i64w _ (by omega) (by omega)]; rfl
                    have y2 : ((i : Int) < (len2 : Int)) = True := eq_true (by omega)
                    have y3 : (i < len2) = True := eq_true hi
                    have y4 : (0 ≤ (i : Int)) = True := eq_true (by omega)
                    obtain ⟨ad2, e2, _, r0, r1⟩ := HLOST.out i hi
                    cases e2
                    have g2 := HLOST.out.at_ D6.out.B i hi
                    have SU := awF_succ zs i m t
                    have cw : IntKind.i64.wrap (rd zs (i : Int)) = rd zs (i : Int) := by rw [IntKind.wrap_i64]; omega
                    have cw2 : wrap64 (rd zs (i : Int)) = rd zs (i : Int) := i64w _ (by omega) (by omega)
                    have tr : -9223372036854775808 ≤ Int.tmod (rd zs (i : Int)) m ∧ Int.tmod (rd zs (i : Int)) m ≤ 9223372036854775807 := by
                      have a1 := Int.tmod_nonneg m r0
                      have a2 := Int.tmod_lt_of_pos (rd zs (i : Int)) (show 0 < m by have := HM.out; omega)
                      have := HM.out
                      omega
                    have cw3 : wrap64 (Int.tmod (rd zs (i : Int)) m) = Int.tmod (rd zs (i : Int)) m := i64w _ tr.1 tr.2
                    cases hq : awF zs i m t
                    · rw [hq, Bool.false_or] at SU
                      clear hi r0 r1 hq tr
                      cases hq2 : (Int.tmod (rd zs (i : Int)) m == (t : Int))
                      all_goals rw [hq2] at SU
                      all_goals go_wp2_with fail
                      all_goals go_roundg k2
                      case measure => omega
                      case rel => exact ⟨i + 1, by rw [SU], by first | rw [hi1] | rfl, HX', D6⟩
                      case measure => omega
                      case rel => exact ⟨i + 1, by rw [SU], by first | rw [hi1] | rfl, HX', D6⟩
                    · rw [hq, Bool.true_or] at SU
                      clear hi r0 r1 hq tr
                      go_wp2_with fail
                      go_roundg k2
                      case measure => omega
                      case rel => exact ⟨i + 1, by rw [SU], by first | rw [hi1] | rfl, HX', D6⟩
                  | zero =>
                    have hi : i = len2 := by have := HX.out; omega
                    have x1 : decide ((i : Int) < (len2 : Int)) = false := decide_eq_false (by omega)
                    have x2 : decide (i < len2) = false := decide_eq_false (by omega)
                    have HI2 := Aside0.mk hi
                    clear hi
                    go_wp2_with fail
                    (with_reducible refine (FTickL_calls (awF zs i m t) base f g 5 b s p H1 _ _ _ D6.out.fld D6.out.hb (by decide) HR.out D6.out.ok).mono ?_); rintro e w5 ⟨⟨v5, rfl⟩, hf, hc⟩
                    have D7 : Aside0 (DS w w5 base f g b s p H1 (onL zs len2 m b s p L1 T1 (t + 1)) (onT zs len2 m b s p L1 T1 (t + 1))) := ⟨by
                      have := D6.out.tick HR.out _ hf hc
                      rw [HI2.out] at this
                      exact this⟩
                    clear hf hc
                    go_wp2_with fail
                    (with_reducible refine (Masters_calls base f g 5 b s p H1 _ _ _ D7.out.fld (by decide)).mono ?_); rintro e w6 ⟨v6, rfl, hR6, hb⟩
                    have D8 := Aside0.mk (D7.out.below hb)
                    have R8 : Aside0 (Kd.R (Kd.int .i64) 3 w6 w5.heap.size (fun _ => True) v6 (onM zs len2 m b s p L1 T1 (t + 1))) := ⟨hR6⟩
                    clear hb hR6
                    by_cases tw : wv ≤ (t : Int)
                    · have v1 : decide ((t : Int) ≥ wv) = true := decide_eq_true tw
                      have v2 : decide (wv ≤ (t : Int)) = true := decide_eq_true tw
                      have law := on_law (zs := zs) (m := m) (T := T1) HR.out HQ.out.2.1 HQ.out.2.2.2.2.2.2 OK.out HB1.out t (by rw [← HWV.out]; exact tw)
                      clear tw
                      rcases law with ⟨b1, e1⟩ | ⟨b1, e1⟩
                      · have v3 : decide (bv < 0) = true := decide_eq_true b1
                        have v4 : decide (bv ≥ 0) = false := decide_eq_false (by omega)
                        have v5 : decide (0 ≤ bv) = false := decide_eq_false (by omega)
                        have hR6 := R8.out
                        rw [e1] at hR6
                        obtain ⟨A6, c6, rfl⟩ := R_slice' hR6
                        clear b1 e1 hR6 R8
                        go_wp2_with fail
                        go_roundg k1
                        case measure => omega
                        case rel => exact ⟨t + 1, by first | rw [ht1] | rfl, HT', D8⟩
                      · have v3 : decide (bv < 0) = false := decide_eq_false (by omega)
                        have v4 : decide (bv ≥ 0) = true := decide_eq_true b1
                        have v5 : decide (0 ≤ bv) = true := decide_eq_true b1
                        have v6 : (bv != bv) = false := by simp
                        have hR6 := R8.out
                        rw [e1] at hR6
                        obtain ⟨q6, c6, rfl, _, g6⟩ := R_one hR6
                        clear b1 e1 hR6 R8
                        go_wp2_with fail
                        go_roundg k1
                        case measure => omega
                        case rel => exact ⟨t + 1, by first | rw [ht1] | rfl, HT', D8⟩
                    · have v1 : decide ((t : Int) ≥ wv) = false := decide_eq_false tw
                      have v2 : decide (wv ≤ (t : Int)) = false := decide_eq_false tw
                      obtain ⟨A6, c6, rfl⟩ := R_slice' R8.out
                      clear tw R8
                      go_wp2_with fail
                      go_roundg k1
                      case measure => omega
                      case rel => exact ⟨t + 1, by first | rw [ht1] | rfl, HT', D8⟩
set_option maxHeartbeats 16000000 in
set_option maxRecDepth 100000 in
theorem One_many (b0 s0 p0 b s p wv m : Int) (A A2 : Option Addr) (len cap len2 cap2 : Nat) (zs : List Int) (w : World) (h : Acts3 w A len) (hl : len ≤ maxLen) (h4 : 4 < len2) (h5 : len2 ≤ cap2) (h6 : A2.isSome = true) (hz : Lost w A2 4 zs) (eb : smB b0 4 = b) (es : smS s0 = s) (ep : smP p0 = p) (ew : winV b s p 5 4 = wv) (em : 3 * wv = m) :
    Calls Try.prog 6 #[.agg #[.int .i64 b0, .int .i64 s0, .int .i64 p0], .slice A len cap, .slice A2 len2 cap2] w fun e w' => e = .returned (.bool true) ∧ Below w.heap.size w w' := by
  have hu23 := Try.underlying23
  have hu58 := Try.underlying58
  have hu72 := Try.underlying72
  have hu3 := Try.underlying3
  have HR : Aside0 (rightB b s p = true) := ⟨by rw [← eb, ← es, ← ep]; exact sm_right b0 s0 p0 4 (by omega) (by omega)⟩
  have HQ : Aside0 (((4 : Nat) : Int) + 2 ≤ 6 ∧ (((4 : Nat) : Int) + 2) * 6 ≤ b ∧ b ≤ 45 ∧ 1 ≤ s ∧ s ≤ 6 ∧ 1 ≤ p ∧ p ≤ 5) := ⟨by have := sm_range b0 s0 p0 4 (by omega); omega⟩
  have HS : Aside0 (partV b0 10 + (4 + 2) * 6 = b ∧ partV s0 6 + 1 = s ∧ partV p0 5 + 1 = p) := ⟨⟨eb, es, ep⟩⟩
  have HWV : Aside0 (wv = b + 4 * s + (((4 : Nat) : Int) + 3) * p + 4) := ⟨by
    have e : winV b s p 5 4 = b + (5 - 1) * s + (4 + 3) * p + 4 := if_pos ⟨HR.out, by decide, by omega, by omega⟩
    rw [← ew, e]
    simp⟩
  have HM : Aside0 (1 ≤ wv ∧ wv ≤ 1000 ∧ m = 3 * wv) := ⟨by
    have := HQ.out
    have e := HWV.out
    have h1 : 0 ≤ (((4 : Nat) : Int) + 3) * p := Int.mul_nonneg (by omega) (by omega)
    have h2 : (((4 : Nat) : Int) + 3) * p ≤ (((4 : Nat) : Int) + 3) * 5 := Int.mul_le_mul_of_nonneg_left (by omega) (by omega)
    omega⟩
  have HWIN := Aside0.mk (RefWindow_eq b s p 5 4 (by decide) (by decide))
  rw [ew] at HWIN
  have em3 : wrap64 (3 * wv) = m := by rw [i64w _ (by have := HM.out; omega) (by have := HM.out; omega)]; exact em
  have em0 : (m = 0) = False := eq_false (by have := HM.out; omega)
  have em1 : (m == 0) = false := beq_eq_false_iff_ne.mpr (by have := HM.out; omega)
  have HROW := Aside0.mk h
  have HLEN := Aside0.mk hl
  have HLOST := Aside0.mk hz
  have o1 : decide ((len2 : Int) > 4) = true := decide_eq_true (by omega)
  have o2 : decide (4 < len2) = true := decide_eq_true h4
  have o3 : decide ((4 : Int) < (len2 : Int)) = true := decide_eq_true (by omega)
  have o4 : (4 ≤ cap2) = True := eq_true (by omega)
  have o5 : ((4 : Int) ≤ (cap2 : Int)) = True := eq_true (by omega)
  obtain ⟨ab, rfl⟩ := Option.isSome_iff_exists.1 h6
  clear h hl hz eb es ep ew em
  have BK0 : Aside0 ((w.alloc (.cells #[.int .i64 b0, .int .i64 s0, .int .i64 p0] 23)).heap[w.heap.size]? = some (.cells #[.int .i64 b0, .int .i64 s0, .int .i64 p0] 23 (0, 0))) := ⟨blk_new _ _⟩
  have B0 : Aside0 (Below w.heap.size w (w.alloc (.cells #[.int .i64 b0, .int .i64 s0, .int .i64 p0] 23))) := ⟨below_alloc (Below.refl _ _) _⟩
  have c0 := (blk_cell BK0.out 0).trans rfl
  have c1 := (blk_cell BK0.out 1).trans rfl
  have c2 := (blk_cell BK0.out 2).trans rfl
  go_enter Try.func6, Try.ntmps6
  go_wp2_with fail
  (with_reducible refine (Small_calls b0 s0 p0 4 _ (by omega) (by omega)).mono ?_); rintro e w1 ⟨rfl, hb⟩
  rw [HS.out.1, HS.out.2.1, HS.out.2.2]
  have BK1 : Aside0 (w1.heap[w.heap.size]? = some (.cells #[.int .i64 b0, .int .i64 s0, .int .i64 p0] 23 (0, 0))) := ⟨blk_below BK0.out hb⟩
  have B1 : Aside0 (Below w.heap.size w w1) := ⟨below_step B0.out hb⟩
  clear hb c0 c1 c2 BK0 B0
  have c0 := (blk_cell BK1.out 0).trans rfl
  have c1 := (blk_cell BK1.out 1).trans rfl
  have c2 := (blk_cell BK1.out 2).trans rfl
  have f0 := blk_frozen BK1.out 0
  have f1 := blk_frozen BK1.out 1
  have f2 := blk_frozen BK1.out 2
  obtain ⟨K2, B2⟩ := box_put BK1.out (.int .i64 b) (.int .i64 s) (.int .i64 p) B1.out
  have BK2 := Aside0.mk K2
  have B2 := Aside0.mk B2
  have d0 := (blk_cell BK2.out 0).trans rfl
  have d1 := (blk_cell BK2.out 1).trans rfl
  have d2 := (blk_cell BK2.out 2).trans rfl
  clear K2
  go_wp2_with fail
  (with_reducible refine (Open5' b s p _ HR.out).mono ?_); rintro e w2 ⟨f, g, H, rfl, hf, hb⟩
  have D0 : Aside0 (DS w w2 _ f g b s p H (openL 5) []) := ⟨⟨hf, FOk.opened _ _ _ _ (fun j _ => WJ_nn b s p j) (right_of HR.out).1, blk_below BK2.out hb, below_step B2.out hb, blk_lt BK2.out, hb.size⟩⟩
  clear hf hb c0 c1 c2 f0 f1 f2 d0 d1 d2 BK1 B1 BK2 B2
  generalize ((w1.setCell ⟨w.heap.size, 0, none⟩ (.int .i64 b)).setCell ⟨w.heap.size, 1, none⟩ (.int .i64 s)).setCell ⟨w.heap.size, 2, none⟩ (.int .i64 p) = wx at D0
  generalize wx.heap.size = base at D0
  go_wp2_with fail
  go_loopg [10] 40 (fun kq v8 w' => ∃ (i : Int) (H1 : Nat → Option Nat) (L1 : Nat → Option Nd) (T1 : List Int), v8 = .int .i64 i ∧ Aside0 (0 ≤ i ∧ i + kq = 40) ∧ Aside0 (DS w w' base f g b s p H1 L1 T1))
  case atStart => exact ⟨0, H, _, _, rfl, ⟨by omega⟩, D0⟩
  case round =>
    obtain ⟨i, H1, L1, T1, rfl, HI, D1⟩ := hrel
    clear D0
    by_cases t : i < (len : Int) ∧ i < 40
    · obtain ⟨t1, t2⟩ := t
      have u1 : decide (i < (len : Int)) = true := decide_eq_true t1
      have u2 : decide (i < 40) = true := decide_eq_true t2
      obtain ⟨k1, rfl⟩ : ∃ k1, gk = k1 + 1 := ⟨gk - 1, by have := HI.out; omega⟩
      have hlt : i.toNat < len := by have := HI.out; omega
      obtain ⟨ad, _, _, _, rfl, _⟩ := HROW.out i.toNat hlt
      obtain ⟨z0, z1, z2, a0, a1, a2⟩ := HROW.out.at_ D1.out.B i.toNat hlt
      have HI' : Aside0 (0 ≤ i + 1 ∧ i + 1 + k1 = 40) := ⟨by have := HI.out; omega⟩
      have hi1 : wrap64 (i + 1) = i + 1 := i64w _ (by have := HI.out; omega) (by have := HI.out; omega)
      have q0 : (0 ≤ i) = True := eq_true HI.out.1
      have q1 : (i < (len : Int)) = True := eq_true t1
      clear t1 t2 hlt
      go_wp2_with fail
      (with_reducible refine (Do_calls _ base f g b s p z0 z1 z2 H1 L1 T1 D1.out.fx HR.out).mono ?_); rintro e w3 ⟨⟨v3, rfl⟩, H2, L2, T2, hx⟩
      have D2 := Aside0.mk (D1.out.go hx)
      clear hx
      go_wp2_with fail
      go_roundg k1
      case measure => omega
      case rel => exact ⟨i + 1, H2, L2, T2, by first | rw [hi1] | rfl, HI', D2⟩
    · obtain ⟨t1, u1, u2⟩ : ∃ t1 : Bool, decide (i < (len : Int)) = t1 ∧ (t1 = true → decide (i < 40) = false) := ⟨_, rfl, fun q => decide_eq_false (fun q2 => t ⟨of_decide_eq_true q, q2⟩)⟩
      clear t
      have NEXT : Aside0 (t1 = true → decide (i < 40) = false) := ⟨u2⟩
      clear u2
      cases t1
      all_goals (try have u2 : decide (i < 40) = false := NEXT.out rfl)
      all_goals clear NEXT
      all_goals
        go_wp2_with fail
        go_loopg [11, 12] 5 (fun kq v11 v12 w' => ∃ bv kk : Int, v11 = .int .i64 bv ∧ v12 = .int .i64 kk ∧ Aside0 (kk + 1 = kq ∧ kk < 5 ∧ -1 ≤ bv ∧ bv < 5) ∧ Aside0 (Best L1 kk bv) ∧ Aside0 (DS w w' base f g b s p H1 L1 T1))
        case atStart => exact ⟨-1, 4, rfl, rfl, ⟨by omega⟩, ⟨.inl ⟨rfl, fun j h1 h2 => by omega⟩⟩, D1⟩
        case round =>
          obtain ⟨bv, kk, rfl, rfl, HK, HB, D2⟩ := hrel
          clear D1
          cases gk with
          | succ k1 =>
            have u3 : decide (kk ≥ 0) = true := decide_eq_true (by have := HK.out; omega)
            have u4 : decide (0 ≤ kk) = true := decide_eq_true (by have := HK.out; omega)
            have HB' := Aside0.mk (HB.out.next (by have := HK.out; omega) (by have := HK.out; omega))
            have hk1 : wrap64 (kk - 1) = kk - 1 := i64w _ (by have := HK.out; omega) (by have := HK.out; omega)
            go_wp2_with fail
            (with_reducible refine (AliveL_calls base f g 5 b s p kk H1 L1 T1 _ D2.out.fld (by decide)).mono ?_); rintro e w3 ⟨rfl, hd⟩
            have D3 := Aside0.mk (D2.out.below (Drawn0.below hd))
            clear hd
            cases ha : aliveL 5 L1 kk
            all_goals rw [ha] at HB'
            all_goals clear ha
            all_goals go_wp2_with fail
            all_goals go_roundg k1
            case measure => omega
            case rel => exact ⟨bv, kk - 1, rfl, by first | rw [hk1] | rfl, ⟨by have := HK.out; omega⟩, ⟨HB'.out⟩, D3⟩
            case measure => omega
            case rel => exact ⟨kk, kk - 1, rfl, by first | rw [hk1] | rfl, ⟨by have := HK.out; omega⟩, ⟨HB'.out⟩, D3⟩
          | zero =>
            have u3 : decide (kk ≥ 0) = false := decide_eq_false (by have := HK.out; omega)
            have u4 : decide (0 ≤ kk) = false := decide_eq_false (by have := HK.out; omega)
            have HB1 : Aside0 (Best L1 (-1) bv) := ⟨by have e : kk = -1 := (by have := HK.out; omega); have := HB.out; rwa [e] at this⟩
            have HBV : Aside0 (-1 ≤ bv ∧ bv < 5) := ⟨by have := HK.out; omega⟩
            obtain ⟨c0, c1, c2⟩ := D2.out.cells
            clear HB HK
            go_wp2_with fail
            (with_reducible refine (bellbuoylaw21_plain.calls b s p b s p _ rfl).mono ?_); rintro e w3 ⟨rfl, hb⟩
            have D3 := Aside0.mk (D2.out.below hb)
            clear hb c0 c1 c2
            go_wp2_with fail
            (with_reducible refine (bellbuoyref21_Window.calls b s p 5 4 wv _ HWIN.out).mono ?_); rintro e w4 ⟨rfl, hb⟩
            have D4 : Aside0 (DS w w4 base f g b s p H1 (onL zs 4 m b s p L1 T1 0) (onT zs 4 m b s p L1 T1 0)) := ⟨D3.out.below hb⟩
            have OK := Aside0.mk D3.out.ok
            clear hb
            go_wp2_with fail
            go_loopg [14] m.toNat (fun kq v14 w' => ∃ t : Nat, v14 = .int .i64 (t : Int) ∧ Aside0 ((t : Int) + kq = m) ∧ Aside0 (DS w w' base f g b s p H1 (onL zs 4 m b s p L1 T1 t) (onT zs 4 m b s p L1 T1 t)))
            case atStart => exact ⟨0, rfl, ⟨by have := HM.out; omega⟩, D4⟩
            case round =>
              obtain ⟨t, rfl, HT, D5⟩ := hrel
              clear D2 D3 D4
              cases gk with
              | zero =>
                have u5 : decide ((t : Int) < m) = false := decide_eq_false (by have := HT.out; omega)
                go_wp2_with fail
                (with_reducible refine (live_calls _).mono ?_); rintro e w6 ⟨rfl, hb⟩
                go_wp2_with fail
                go_ret
                exact ⟨rfl, below_step D5.out.B hb⟩
              | succ k1 =>
                have u5 : decide ((t : Int) < m) = true := decide_eq_true (by have := HT.out; omega)
                have HT' : Aside0 (((t + 1 : Nat) : Int) + k1 = m) := ⟨by have := HT.out; omega⟩
                have ht1 : wrap64 ((t : Int) + 1) = ((t + 1 : Nat) : Int) := by rw [i64w _ (by omega) (by have := HT.out; have := HM.out; omega)]; rfl
                go_wp2_with fail
                go_loopg [15, 16] 4 (fun kq v15 v16 w' => ∃ i : Nat, v15 = .bool (awF zs i m t) ∧ v16 = .int .i64 (i : Int) ∧ Aside0 (i + kq = 4) ∧ Aside0 (DS w w' base f g b s p H1 (onL zs 4 m b s p L1 T1 t) (onT zs 4 m b s p L1 T1 t)))
                case atStart => exact ⟨0, by rw [awF_zero], rfl, ⟨by omega⟩, D5⟩
                case round =>
                  obtain ⟨i, rfl, rfl, HX, D6⟩ := hrel
                  clear D5
                  cases gk with
                  | succ k2 =>
                    have hi : i < 4 := by have := HX.out; omega
                    have x1 : decide ((i : Int) < 4) = true := decide_eq_true (by omega)
                    have x2 : decide (i < 4) = true := decide_eq_true hi
                    have HX' : Aside0 (i + 1 + k2 = 4) := ⟨by have := HX.out; omega⟩
                    have hi1 : wrap64 ((i : Int) + 1) = ((i + 1 : Nat) : Int) := by rw [i64w _ (by omega) (by omega)]; rfl
                    have y2 : ((i : Int) < 4) = True := eq_true (by omega)
                    have y3 : (i < 4) = True := eq_true hi
                    have y4 : (0 ≤ (i : Int)) = True := eq_true (by omega)
                    obtain ⟨ad2, e2, _, r0, r1⟩ := HLOST.out i hi
                    cases e2
                    have g2 := HLOST.out.at_ D6.out.B i hi
                    have SU := awF_succ zs i m t
                    have cw : IntKind.i64.wrap (rd zs (i : Int)) = rd zs (i : Int) := by rw [IntKind.wrap_i64]; omega
                    have cw2 : wrap64 (rd zs (i : Int)) = rd zs (i : Int) := i64w _ (by omega) (by omega)
                    have tr : -9223372036854775808 ≤ Int.tmod (rd zs (i : Int)) m ∧ Int.tmod (rd zs (i : Int)) m ≤ 9223372036854775807 := by
                      have a1 := Int.tmod_nonneg m r0
                      have a2 := Int.tmod_lt_of_pos (rd zs (i : Int)) (show 0 < m by have := HM.out; omega)
                      have := HM.out
                      omega
                    have cw3 : wrap64 (Int.tmod (rd zs (i : Int)) m) = Int.tmod (rd zs (i : Int)) m := i64w _ tr.1 tr.2
                    cases hq : awF zs i m t
                    · rw [hq, Bool.false_or] at SU
                      clear hi r0 r1 hq tr
                      cases hq2 : (Int.tmod (rd zs (i : Int)) m == (t : Int))
                      all_goals rw [hq2] at SU
                      all_goals go_wp2_with fail
                      all_goals go_roundg k2
                      case measure => omega
                      case rel => exact ⟨i + 1, by rw [SU], by first | rw [hi1] | rfl, HX', D6⟩
                      case measure => omega
                      case rel => exact ⟨i + 1, by rw [SU], by first | rw [hi1] | rfl, HX', D6⟩
                    · rw [hq, Bool.true_or] at SU
                      clear hi r0 r1 hq tr
                      go_wp2_with fail
                      go_roundg k2
                      case measure => omega
                      case rel => exact ⟨i + 1, by rw [SU], by first | rw [hi1] | rfl, HX', D6⟩
                  | zero =>
                    have hi : i = 4 := by have := HX.out; omega
                    have x1 : decide ((i : Int) < 4) = false := decide_eq_false (by omega)
                    have x2 : decide (i < 4) = false := decide_eq_false (by omega)
                    have HI2 := Aside0.mk hi
                    clear hi
                    go_wp2_with fail
                    (with_reducible refine (FTickL_calls (awF zs i m t) base f g 5 b s p H1 _ _ _ D6.out.fld D6.out.hb (by decide) HR.out D6.out.ok).mono ?_); rintro e w5 ⟨⟨v5, rfl⟩, hf, hc⟩
                    have D7 : Aside0 (DS w w5 base f g b s p H1 (onL zs 4 m b s p L1 T1 (t + 1)) (onT zs 4 m b s p L1 T1 (t + 1))) := ⟨by
                      have := D6.out.tick HR.out _ hf hc
                      rw [HI2.out] at this
                      exact this⟩
                    clear hf hc
                    go_wp2_with fail
                    (with_reducible refine (Masters_calls base f g 5 b s p H1 _ _ _ D7.out.fld (by decide)).mono ?_); rintro e w6 ⟨v6, rfl, hR6, hb⟩
                    have D8 := Aside0.mk (D7.out.below hb)
                    have R8 : Aside0 (Kd.R (Kd.int .i64) 3 w6 w5.heap.size (fun _ => True) v6 (onM zs 4 m b s p L1 T1 (t + 1))) := ⟨hR6⟩
                    clear hb hR6
                    by_cases tw : wv ≤ (t : Int)
                    · have v1 : decide ((t : Int) ≥ wv) = true := decide_eq_true tw
                      have v2 : decide (wv ≤ (t : Int)) = true := decide_eq_true tw
                      have law := on_law (zs := zs) (m := m) (T := T1) HR.out HQ.out.2.1 HQ.out.2.2.2.2.2.2 OK.out HB1.out t (by rw [← HWV.out]; exact tw)
                      clear tw
                      rcases law with ⟨b1, e1⟩ | ⟨b1, e1⟩
                      · have v3 : decide (bv < 0) = true := decide_eq_true b1
                        have v4 : decide (bv ≥ 0) = false := decide_eq_false (by omega)
                        have v5 : decide (0 ≤ bv) = false := decide_eq_false (by omega)
                        have hR6 := R8.out
                        rw [e1] at hR6
                        obtain ⟨A6, c6, rfl⟩ := R_slice' hR6
                        clear b1 e1 hR6 R8
                        go_wp2_with fail
                        go_roundg k1
                        case measure => omega
                        case rel => exact ⟨t + 1, by first | rw [ht1] | rfl, HT', D8⟩
                      · have v3 : decide (bv < 0) = false := decide_eq_false (by omega)
                        have v4 : decide (bv ≥ 0) = true := decide_eq_true b1
                        have v5 : decide (0 ≤ bv) = true := decide_eq_true b1
                        have v6 : (bv != bv) = false := by simp
                        have hR6 := R8.out
                        rw [e1] at hR6
                        obtain ⟨q6, c6, rfl, _, g6⟩ := R_one hR6
                        clear b1 e1 hR6 R8
                        go_wp2_with fail
                        go_roundg k1
                        case measure => omega
                        case rel => exact ⟨t + 1, by first | rw [ht1] | rfl, HT', D8⟩
                    · have v1 : decide ((t : Int) ≥ wv) = false := decide_eq_false tw
                      have v2 : decide (wv ≤ (t : Int)) = false := decide_eq_false tw
                      obtain ⟨A6, c6, rfl⟩ := R_slice' R8.out
                      clear tw R8
                      go_wp2_with fail
                      go_roundg k1
                      case measure => omega
                      case rel => exact ⟨t + 1, by first | rw [ht1] | rfl, HT', D8⟩
theorem RankOne_walk (b s p : Int) (A : Option Addr) (len cap : Nat) (A2 : Option Addr) (len2 cap2 : Nat) (zs : List Int) (w : World) (w0 : (Lit.int .i64 b).wf = true) (w1 : (Lit.int .i64 s).wf = true) (w2 : (Lit.int .i64 p).wf = true)
    (h : (A = none ∧ len = 0 ∧ cap = 0) ∨ ∃ x, A = some x ∧ len ≤ cap ∧ cap ≤ maxLen ∧ ∀ i, i < len → ∃ (z0 : Int) (z1 : Int) (z2 : Int), w.cell? (x.add (i * 3 + 0)) = some (.int .i64 z0) ∧ w.cell? (x.add (i * 3 + 1)) = some (.int .i64 z1) ∧ w.cell? (x.add (i * 3 + 2)) = some (.int .i64 z2) ∧ (Lit.int .i64 z0).wf = true ∧ (Lit.int .i64 z1).wf = true ∧ (Lit.int .i64 z2).wf = true)
    (h2 : (A2 = none ∧ len2 = 0 ∧ cap2 = 0 ∧ zs = []) ∨ ∃ x, A2 = some x ∧ len2 ≤ cap2 ∧ cap2 ≤ maxLen ∧ zs.length = cap2 ∧ (∀ i, i < zs.length → w.cell? (x.add i) = some (.int .u16 (zs.getD i 0))) ∧ ∀ n ∈ zs, (Lit.int .u16 n).wf = true) (y2 : len2 * 2 ≤ 140737488351232) :
    Calls Try.prog 6 #[.agg #[.int .i64 b, .int .i64 s, .int .i64 p], .slice A len cap, .slice A2 len2 cap2] w fun e w' => e = .returned (.bool true) ∧ Below w.heap.size w w' := by
  have hz : (4 < len2 → len2 ≤ cap2 ∧ A2.isSome = true) ∧ Lost w A2 len2 zs := by
    rcases h2 with ⟨rfl, rfl, rfl, rfl⟩ | ⟨x, rfl, a1, a2, a3, a4, a5⟩
    · exact ⟨fun q => by omega, fun i hi => absurd hi (Nat.not_lt_zero _)⟩
    · refine ⟨fun _ => ⟨a1, rfl⟩, fun i hi => ?_⟩
      have hi2 : i < zs.length := by omega
      have e : rd zs (i : Int) = zs[i] := by simp [rd, List.getD_eq_getElem?_getD, List.getElem?_eq_getElem hi2]
      have c := a4 i hi2
      rw [List.getD_eq_getElem?_getD, List.getElem?_eq_getElem hi2] at c
      have wf := a5 _ (List.getElem_mem hi2)
      simp only [Lit.wf, Bool.and_eq_true, decide_eq_true_eq] at wf
      rw [e]
      exact ⟨x, rfl, c, wf.1, wf.2⟩
  by_cases h4 : 4 < len2
  · exact One_many b s p _ _ _ _ _ A A2 len cap len2 cap2 zs w (acts3_row h).1 (acts3_row h).2 h4 (hz.1 h4).1 (hz.1 h4).2 (fun i hi => hz.2 i (by omega)) rfl rfl rfl rfl rfl
  · exact One_few b s p _ _ _ _ _ A A2 len cap len2 cap2 zs w (acts3_row h).1 (acts3_row h).2 (by omega) hz.2 rfl rfl rfl rfl rfl
end Go.Proofs.Ytcgkbbfnlbjblaa.P
