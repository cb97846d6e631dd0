/- Whatever crashes, is switched on, and lost: by the program and the document: the walk. Condition: the acts can be read. -/
import Derived.Test.YtcgkbbfnlbjblaaRankROpen
import Derived.Test.YtcgkbbfnlbjblaaRankLaw
import Derived.Test.YtcgkbbfnlbjblaaRankNodeWalk
namespace Go.Proofs.Ytcgkbbfnlbjblaa.P
open Go.RowKit Go.Proofs.YtcgkbbfnlbjblaaW.PrintWords Go.Proofs.YtcgkbbfnlbjblaaW.PrintLast Go.Proofs.YtcgkbbfnlbjblaaW.PrintMore
set_option linter.unusedVariables false
set_option linter.unusedSimpArgs false
theorem l0_self (xs : List Int) : ∀ (k i : Nat), i ≤ xs.length → xs.length < i + k → xs.length ≤ 32 → bellbuoyref15_SameInts.l0 k xs xs (i : Int) = some true
  | 0, i, h1, h2, _ => by omega
  | k + 1, i, h1, h2, h3 => by
    unfold bellbuoyref15_SameInts.l0
    by_cases h : i < xs.length
    · rw [if_pos (by omega), if_pos (by omega), if_pos (by omega), if_pos rfl, i64w _ (by omega) (by omega)]
      exact l0_self xs k (i + 1) (by omega) (by omega) h3
    · rw [if_neg (by omega)]
theorem same_self (xs : List Int) {n : Nat} (h : xs.length ≤ n) (hn : n ≤ 32) : bellbuoyref15_SameInts.f 40 xs xs = some true := by
  unfold bellbuoyref15_SameInts.f
  rw [if_pos rfl]
  exact l0_self xs 40 0 (Nat.zero_le _) (by omega) (by omega)
theorem R_C {W : World} {b0 : Nat} {ok : Nat → Prop} {A : Option Addr} {n c : Nat} {xs : List Int} (h : Kd.R (Kd.int .i64) 3 W b0 ok (.slice A n c) xs) : Kd.C (Kd.int .i64) W A xs.length xs ∧ xs.length ≤ c := by
  obtain ⟨A', c', e, hl, hC⟩ := Kd.R_reads h
  cases e
  exact ⟨hC, hl⟩
theorem act_cells' {W : World} {g : Nat} {a k m : Int} (h : W.heap[g]? = some (.cells #[.int .i64 a, .int .i64 k, .int .i64 m] 58 (0, 0))) :
    W.cell? ⟨g, 0, none⟩ = some (.int .i64 a) ∧ W.cell? ⟨g, 1, none⟩ = some (.int .i64 k) ∧ W.cell? ⟨g, 2, none⟩ = some (.int .i64 m) := ⟨(blk_cell h 0).trans rfl, (blk_cell h 1).trans rfl, (blk_cell h 2).trans rfl⟩
theorem Fld.types {W : World} {base f g n : Nat} {b s p : Int} {H : Nat → Option Nat} {L : Nat → Option Nd} {T : List Int} (h : Fld W base f g b s p n H L T) : ∀ k cs t, FldS f g H n k → W.heap[k]? = some (.cells cs t (0, 0)) → t = 81 ∨ t = 36 ∨ t = 77 := fun k cs t q hk => by
  obtain ⟨v4, i1, _⟩ := h.fv
  obtain ⟨gc, i2, _⟩ := h.gv
  rcases q with rfl | rfl | q
  · exact .inl (blk_type hk i1)
  · exact .inr (.inl (blk_type hk i2))
  · obtain ⟨cs', hc⟩ := FS.typed h.nd q
    exact .inr (.inr (blk_type hk hc))
theorem RFld.types {W : World} {base f g n : Nat} {b s p : Int} {H : Nat → Option Nat} {L : Nat → Option Nd} {T : List Int} (h : RFld W base f g b s p n H L T) : ∀ k cs t, FldS f g H n k → W.heap[k]? = some (.cells cs t (0, 0)) → t = 67 ∨ t = 40 ∨ t = 47 := fun k cs t q hk => by
  obtain ⟨v4, cp, i1, _⟩ := h.fv
  obtain ⟨gc, i2, _⟩ := h.gv
  rcases q with rfl | rfl | q
  · exact .inl (blk_type hk i1)
  · exact .inr (.inl (blk_type hk i2))
  · obtain ⟨cs', hc⟩ := FS.rtyped h.nd q
    exact .inr (.inr (blk_type hk hc))
theorem RFld.other {w w' : World} {base f g n k t : Nat} {b s p : Int} {H : Nat → Option Nat} {L : Nat → Option Nd} {told : List Int} {cs : Array Value} (h : RFld w base f g b s p n H L told) (hc : Ch (FldS f g H n) w w') (hk : w.heap[k]? = some (.cells cs t (0, 0))) (h1 : t ≠ 67) (h2 : t ≠ 40) (h3 : t ≠ 47) : w'.heap[k]? = some (.cells cs t (0, 0)) :=
  hc.blk hk (fun q => by rcases h.types _ _ _ q hk with e | e | e <;> first | exact h1 e | exact h2 e | exact h3 e)
structure FF (w W : World) (base1 base2 f g fr gr : Nat) (b s p : Int) (n : Nat) (H Hr : Nat → Option Nat) (L : Nat → Option Nd) (T : List Int) (Lr : Nat → Option Nd) (Tr : List Int) : Prop where
  P : Fld W base1 f g b s p n H L T
  R : RFld W base2 fr gr b s p n Hr Lr Tr
  okP : FOk (WJ b s p) p n L
  okR : FOk (WJ b s p) p n Lr
  B : Below w.heap.size w W
  h1 : w.heap.size ≤ base1
  h2 : w.heap.size ≤ base2
  b1 : base1 ≤ W.heap.size
  b2 : base2 ≤ W.heap.size
section
variable {w W W' : World} {base1 base2 f g fr gr n : Nat} {b s p : Int} {H Hr H' : Nat → Option Nat} {L Lr L' : Nat → Option Nd} {T Tr T' : List Int}
theorem FF.below (h : FF w W base1 base2 f g fr gr b s p n H Hr L T Lr Tr) (hb : Below W.heap.size W W') : FF w W' base1 base2 f g fr gr b s p n H Hr L T Lr Tr :=
  ⟨h.P.below hb, h.R.below hb, h.okP, h.okR, below_step h.B hb, h.h1, h.h2, Nat.le_trans h.b1 hb.size, Nat.le_trans h.b2 hb.size⟩
theorem FF.drew (h : FF w W base1 base2 f g fr gr b s p n H Hr L T Lr Tr) : FF w W.drew base1 base2 f g fr gr b s p n H Hr L T Lr Tr := h.below (below_drew1 (Below.refl _ _))
theorem FF.pp (h : FF w W base1 base2 f g fr gr b s p n H Hr L T Lr Tr) (hf : Fld W' base1 f g b s p n H' L' T') (ok : FOk (WJ b s p) p n L') (hc : Ch (FldS f g H n) W W') : FF w W' base1 base2 f g fr gr b s p n H' Hr L' T' Lr Tr :=
  ⟨hf, h.R.keep hc (fun k cs t q hk => by rcases h.P.types k cs t q hk with e | e | e <;> (subst e; decide)), ok, h.okR, h.B.trans ((hc.below h.b1 (fun k e => h.P.base_le k e)).mono h.h1), h.h1, h.h2, Nat.le_trans h.b1 hc.size, Nat.le_trans h.b2 hc.size⟩
theorem FF.rr (h : FF w W base1 base2 f g fr gr b s p n H Hr L T Lr Tr) (hf : RFld W' base2 fr gr b s p n H' L' T') (ok : FOk (WJ b s p) p n L') (hc : Ch (FldS fr gr Hr n) W W') : FF w W' base1 base2 f g fr gr b s p n H H' L T L' T' :=
  ⟨h.P.keep hc (fun k cs t q hk => by rcases h.R.types k cs t q hk with e | e | e <;> (subst e; decide)), hf, h.okP, ok, h.B.trans ((hc.below h.b2 (fun k e => h.R.base_le k e)).mono h.h2), h.h1, h.h2, Nat.le_trans h.b1 hc.size, Nat.le_trans h.b2 hc.size⟩
end
theorem RFTick_calls (lost : Bool) (base f g n : Nat) (b s p : Int) (H : Nat → Option Nat) (L : Nat → Option Nd) (told : List Int) (w : World) (h : RFld w base f g b s p n H L told) (hbase : base ≤ w.heap.size) (n1 : n ≤ 32)
    (hr : rightB b s p = true) (ok : FOk (WJ b s p) p n L) :
    Calls Try.prog 31 #[.pointer (some ⟨f, 0, none⟩), .bool lost] w fun e w' => (∃ v, e = .returned v) ∧ RFld w' base f g b s p n H (tickL (WJ b s p) p L told lost) (tickT (WJ b s p) p n L told lost) ∧ Ch (FldS f g H n) w w' := by
  cases lost with
  | false => exact RFTick_heard base f g n b s p H L told w h hbase n1 hr ok
  | true => exact RFTick_lost base f g n b s p H L told w h hbase n1 hr ok
theorem ranked_of (n : Int) (n0 : -9223372036854775808 ≤ n) (n1 : n ≤ 9223372036854775807) : rankB (wrap64 (n - 1)) = decide (1 ≤ n ∧ n ≤ 32) := by
  unfold rankB wrap64
  by_cases h : 1 ≤ n ∧ n ≤ 32
  · rw [decide_eq_true h, decide_eq_true_eq]; omega
  · rw [decide_eq_false h, decide_eq_false_iff_not]; omega
set_option maxHeartbeats 4000000 in
set_option maxRecDepth 100000 in
theorem Field_no (b s p n : Int) (A : Option Addr) (len cap : Nat) (w : World) (h : (rightB b s p && decide (1 ≤ n ∧ n ≤ 32)) = false) (n0 : -9223372036854775808 ≤ n) (n1 : n ≤ 9223372036854775807) :
    Calls Try.prog 5 #[.agg #[.int .i64 b, .int .i64 s, .int .i64 p], .int .i64 n, .slice A len cap] w fun e w' => e = .returned (.bool true) ∧ Below w.heap.size w w' := by
  have H := Aside0.mk h
  have H2 : Aside0 ((rightB b s p && rankB (wrap64 (n - 1))) = false) := ⟨by rw [ranked_of n n0 n1]; exact h⟩
  clear h n0 n1
  have hu23 := Try.underlying23
  have BK0 : Aside0 ((w.alloc (.cells #[.int .i64 b, .int .i64 s, .int .i64 p] 23)).heap[w.heap.size]? = some (.cells #[.int .i64 b, .int .i64 s, .int .i64 p] 23 (0, 0))) := ⟨blk_new _ _⟩
  have B0 : Aside0 (Below w.heap.size w (w.alloc (.cells #[.int .i64 b, .int .i64 s, .int .i64 p] 23))) := ⟨below_alloc (Below.refl _ _) _⟩
  have c0 := (blk_cell BK0.out 0).trans rfl
  have c1 := (blk_cell BK0.out 1).trans rfl
  have c2 := (blk_cell BK0.out 2).trans rfl
  go_enter Try.func5, Try.ntmps5
  go_wp2_with fail
  (with_reducible refine (Open_no b s p n _ H2.out).mono ?_); rintro e w1 ⟨rfl, hb⟩
  have BK1 : Aside0 (w1.heap[w.heap.size]? = some (.cells #[.int .i64 b, .int .i64 s, .int .i64 p] 23 (0, 0))) := ⟨blk_below BK0.out hb⟩
  have B1 : Aside0 (Below w.heap.size w w1) := ⟨below_step B0.out hb⟩
  clear hb c0 c1 c2 BK0 B0
  have c0 := (blk_cell BK1.out 0).trans rfl
  have c1 := (blk_cell BK1.out 1).trans rfl
  have c2 := (blk_cell BK1.out 2).trans rfl
  go_wp2_with fail
  (with_reducible refine (bellbuoylaw21_plain.calls b s p b s p _ rfl).mono ?_); rintro e w2 ⟨rfl, hb⟩
  have B2 : Aside0 (Below w.heap.size w w2) := ⟨below_step B1.out hb⟩
  clear hb c0 c1 c2 BK1 B1
  go_wp2_with fail
  (with_reducible refine (ROpen_no b s p n _ H.out).mono ?_); rintro e w3 ⟨rfl, hb⟩
  have B3 : Aside0 (Below w.heap.size w w3) := ⟨below_step B2.out hb⟩
  clear hb B2
  go_wp2_with fail
  (with_reducible refine (live_calls _).mono ?_); rintro e w4 ⟨rfl, hb⟩
  go_wp2_with fail
  go_ret
  exact ⟨rfl, below_step B3.out hb⟩
theorem box_new3 (W : World) (a b c x y z : Value) (t : TypeId) :
    ((((W.alloc (.cells #[a, b, c] t)).setCell ⟨W.heap.size, 0, none⟩ x).setCell ⟨W.heap.size, 1, none⟩ y).setCell ⟨W.heap.size, 2, none⟩ z).heap[W.heap.size]? = some (.cells #[x, y, z] t (0, 0)) ∧ Below W.heap.size W ((((W.alloc (.cells #[a, b, c] t)).setCell ⟨W.heap.size, 0, none⟩ x).setCell ⟨W.heap.size, 1, none⟩ y).setCell ⟨W.heap.size, 2, none⟩ z) :=
  box_put (blk_new W _) x y z (below_alloc (Below.refl _ _) _)
set_option maxHeartbeats 32000000 in
set_option maxRecDepth 100000 in
theorem Field_yes (b s p : Int) (n : Nat) (A : Option Addr) (len cap : Nat) (w : World) (h1 : rightB b s p = true) (n0 : 1 ≤ n) (n1 : n ≤ 32) (hrow : Acts3 w A len) (hlen : len ≤ maxLen) :
    Calls Try.prog 5 #[.agg #[.int .i64 b, .int .i64 s, .int .i64 p], .int .i64 (n : Int), .slice A len cap] w fun e w' => e = .returned (.bool true) ∧ Below w.heap.size w w' := by
  have HR := Aside0.mk h1
  have N1 := Aside0.mk n1
  have N0 := Aside0.mk n0
  have HROW := Aside0.mk hrow
  have HLEN := Aside0.mk hlen
  clear h1 n0 n1 hrow hlen
  have hu23 := Try.underlying23
  have hu58 := Try.underlying58
  have hu67 := Try.underlying67
  have BK0 : Aside0 ((w.alloc (.cells #[.int .i64 b, .int .i64 s, .int .i64 p] 23)).heap[w.heap.size]? = some (.cells #[.int .i64 b, .int .i64 s, .int .i64 p] 23 (0, 0))) := ⟨blk_new _ _⟩
  have B0 : Aside0 (Below w.heap.size w (w.alloc (.cells #[.int .i64 b, .int .i64 s, .int .i64 p] 23))) := ⟨below_alloc (Below.refl _ _) _⟩
  have c0 := (blk_cell BK0.out 0).trans rfl
  have c1 := (blk_cell BK0.out 1).trans rfl
  have c2 := (blk_cell BK0.out 2).trans rfl
  go_enter Try.func5, Try.ntmps5
  go_wp2_with fail
  (with_reducible refine (Open_yes b s p n _ HR.out N0.out N1.out).mono ?_); rintro e w1 ⟨f, g, H, rfl, hf, hb⟩
  have BK1 : Aside0 (w1.heap[w.heap.size]? = some (.cells #[.int .i64 b, .int .i64 s, .int .i64 p] 23 (0, 0))) := ⟨blk_below BK0.out hb⟩
  have B1 : Aside0 (Below w.heap.size w w1) := ⟨below_step B0.out hb⟩
  have F1 := Aside0.mk hf
  have S1 := Aside0.mk (And.intro B0.out.size hb.size)
  clear hf hb c0 c1 c2 BK0 B0
  generalize (w.alloc (.cells #[.int .i64 b, .int .i64 s, .int .i64 p] 23)).heap.size = base1 at F1 S1
  have c0 := (blk_cell BK1.out 0).trans rfl
  have c1 := (blk_cell BK1.out 1).trans rfl
  have c2 := (blk_cell BK1.out 2).trans rfl
  go_wp2_with fail
  (with_reducible refine (bellbuoylaw21_plain.calls b s p b s p _ rfl).mono ?_); rintro e w2 ⟨rfl, hb⟩
  have B2 : Aside0 (Below w.heap.size w w2) := ⟨below_step B1.out hb⟩
  have F2 := Aside0.mk (F1.out.below hb)
  have S2 := Aside0.mk (And.intro S1.out.1 (Nat.le_trans S1.out.2 hb.size))
  clear hb c0 c1 c2 BK1 B1 F1 S1
  go_wp2_with fail
  (with_reducible refine (ROpen_yes b s p n _ HR.out N0.out N1.out).mono ?_); rintro e w3 ⟨fr, gr, Hr, rfl, hf, hb⟩
  have X0 : Aside0 (FF w w3 base1 w2.heap.size f g fr gr b s p n H Hr (openL n) [] (openL n) []) := ⟨⟨F2.out.below hb, hf, FOk.opened _ _ _ _ (fun j _ => WJ_nn b s p j) (right_of HR.out).1, FOk.opened _ _ _ _ (fun j _ => WJ_nn b s p j) (right_of HR.out).1, below_step B2.out hb, S2.out.1, B2.out.size, Nat.le_trans S2.out.2 hb.size, hb.size⟩⟩
  clear hf hb B2 F2 S2
  generalize w2.heap.size = base2 at X0
  go_wp2_with fail
  go_loopg [11] 60 (fun kq v11 w' => ∃ (i : Int) (H1 Hr1 : Nat → Option Nat) (L1 : Nat → Option Nd) (T1 : List Int), v11 = .int .i64 i ∧ Aside0 (0 ≤ i ∧ i + kq = 60) ∧ Aside0 (FF w w' base1 base2 f g fr gr b s p n H1 Hr1 L1 T1 L1 T1))
  case atStart => exact ⟨0, H, Hr, _, _, rfl, ⟨by omega⟩, X0⟩
  case round =>
    obtain ⟨i, H1, HRN0, L1, T1, rfl, HI, X1⟩ := hrel
    clear X0
    by_cases t : i < (len : Int) ∧ i < 60
    · obtain ⟨t1, t2⟩ := t
      have u1 : decide (i < (len : Int)) = true := decide_eq_true t1
      have u2 : decide (i < 60) = true := decide_eq_true t2
      obtain ⟨k1, rfl⟩ : ∃ k1, gk = k1 + 1 := ⟨gk - 1, by have := HI.out; omega⟩
      have hlt : i.toNat < len := by have := HI.out; omega
      obtain ⟨ad, _, _, _, rfl, _⟩ := HROW.out i.toNat hlt
      obtain ⟨z0, z1, z2, a0, a1, a2⟩ := HROW.out.at_ X1.out.B i.toNat hlt
      have HI' : Aside0 (0 ≤ i + 1 ∧ i + 1 + k1 = 60) := ⟨by have := HI.out; omega⟩
      have hi1 : wrap64 (i + 1) = i + 1 := i64w _ (by have := HI.out; omega) (by have := HI.out; omega)
      have q0 : (0 ≤ i) = True := eq_true HI.out.1
      have q1 : (i < (len : Int)) = True := eq_true t1
      clear t1 t2 hlt
      have X2 := Aside0.mk (X1.out.below (below_alloc (Below.refl _ _) (.cells #[.int .i64 z0, .int .i64 z1, .int .i64 z2] 58)))
      have A2 := Aside0.mk (blk_new wr (.cells #[.int .i64 z0, .int .i64 z1, .int .i64 z2] 58))
      by_cases k0 : z0 = 0
      · subst k0
        go_upto_region 18 with (fail)
        clear a0 a1 a2
        generalize wr.alloc (.cells #[.int .i64 0, .int .i64 z1, .int .i64 z2] 58) = wq at X2 A2 ⊢
        generalize wr.heap.size = ab at A2 ⊢
        obtain ⟨q20, q21, q22⟩ := act_cells' A2.out
        go_region_held3 (fun w' => w'.cell? ⟨ab, 1, none⟩ = some (.int .i64 z1)) (go_keep)
          (first
            | (go_at_call 25; (with_reducible refine (CrashL_calls base1 f g n b s p z1 _ _ _ _ X2.out.drew.P X2.out.drew.b1 N1.out HR.out).mono ?_); rintro e w5 ⟨HP2, rfl, hf, hc⟩; have X3 := Aside0.mk (X2.out.drew.pp hf (X2.out.okP.turn (fun j _ => WJ_nn b s p j) (right_of HR.out).1 z1 false) hc); have A3 := Aside0.mk (Fld.other X2.out.drew.P hc (blk_drew A2.out) (by decide) (by decide) (by decide)); have q3 := (act_cells' A3.out).2.1; clear hf hc)
            | (go_at_call 26; (with_reducible refine (RCrash_calls base2 fr gr n b s p z1 _ _ _ _ X3.out.R X3.out.b2 N1.out HR.out).mono ?_); rintro e w6 ⟨HRN, rfl, hf, hc⟩; have X4 := Aside0.mk (X3.out.rr hf (X3.out.okR.turn (fun j _ => WJ_nn b s p j) (right_of HR.out).1 z1 false) hc); have A4 := Aside0.mk (RFld.other X3.out.R hc A3.out (by decide) (by decide) (by decide)); have q4 := (act_cells' A4.out).2.1; clear hf hc))
        clear X2 X3 A2 A3
        try clear q3
        try clear q2
        try clear a0 a1 a2
        generalize turnL n L1 z1 false = LX at X4
        have ne : (turnEL n L1 z1 false != turnEL n L1 z1 false) = false := by simp
        clear q4
        have XX := X4
        have AA := A4
        clear X4 A4
        have X0 := XX
        have A0 := AA
        have q0 := (act_cells' A0.out).2.1
        clear XX
        by_cases k0 : z1 < 0
        · have HA : Aside0 (aliveL n LX z1 = false) := ⟨by unfold aliveL; rw [decide_eq_false (by omega), Bool.false_and]⟩
          have y1 : decide (z1 ≥ 0) = false := decide_eq_false (by omega)
          have y2 : decide (0 ≤ z1) = false := decide_eq_false (by omega)
          clear k0
          go_wp2_with fail
          refine wp_region_held_drew (S := (fun w' : World => w'.cell? ⟨ab, 1, none⟩ = some (.int .i64 z1))) (by kernel_rfl) q0 (fun hS0 => ?_)
          refine wpAnyH_take (i := 0) (oi := ⟨some 95, _, _, _, _, _⟩) (v := (.pointer (some ⟨f, 0, none⟩))) rfl (by kernel_rfl) (by kernel_rfl) (by kernel_rfl) (fun _ _ _ h => h) (Or.inl ⟨by rfl, fun w hSw => by (try dsimp only at hSw); go_simp⟩) (by assumption) ?_
          try simp only [Act.put, List.setIfInBounds_toArray, List.set_cons_zero, List.set_cons_succ]
          refine wpAnyH_take (i := 2) (oi := ⟨some 97, _, _, _, _, _⟩) (v := (.pointer (some ⟨fr, 0, none⟩))) rfl (by kernel_rfl) (by kernel_rfl) (by kernel_rfl) (fun _ _ _ h => h) (Or.inl ⟨by rfl, fun w hSw => by (try dsimp only at hSw); go_simp⟩) (by assumption) ?_
          try simp only [Act.put, List.setIfInBounds_toArray, List.set_cons_zero, List.set_cons_succ]
          refine wpAnyH_ready (rs := [1]) (by kernel_rfl) (by simp) ?_
          refine AllReadyH.cons (o := ⟨some 96, _, _, _, _, _⟩) rfl (fun K hK => ?_) AllReadyH.nil
          go_simp
          go_at_call 33
          (with_reducible refine (Masters_calls base1 f g n b s p _ LX T1 _ X0.out.drew.P N1.out).mono ?_); rintro e w5 ⟨v5, rfl, hR5, hb⟩; have hb' := below_step (below_drew1 (Below.refl _ _)) hb; have X1 := Aside0.mk (X0.out.below hb'); have A1 := Aside0.mk (blk_below A0.out hb'); have q1 := (act_cells' A1.out).2.1; (obtain ⟨A5, c5, rfl⟩ := R_slice' hR5); have R5 := Aside0.mk hR5; clear hR5 hb hb'
          dsimp only
          refine hK.out _ _ q1 (fun hS1 => ?_)
          clear hK K
          try simp only [Act.put, List.setIfInBounds_toArray, List.set_cons_zero, List.set_cons_succ]
          refine wpAnyH_ready (rs := [3]) (by kernel_rfl) (by simp) ?_
          refine AllReadyH.cons (o := ⟨some 98, _, _, _, _, _⟩) rfl (fun K hK => ?_) AllReadyH.nil
          go_simp
          go_at_call 34
          (with_reducible refine (RMasters_calls base2 fr gr n b s p _ LX T1 _ X1.out.R N1.out).mono ?_); rintro e w6 ⟨v6, rfl, hR6, hb⟩; have hR5' := Kd.R_below R5.out hb; have X2 := Aside0.mk (X1.out.below hb); have A2 := Aside0.mk (blk_below A1.out hb); have q2 := (act_cells' A2.out).2.1; (obtain ⟨A6, c6, rfl⟩ := R_slice' hR6); obtain ⟨hC5, hl5⟩ := R_C hR5'; obtain ⟨hC6, hl6⟩ := R_C hR6; have CC := Aside0.mk (And.intro (And.intro hC5 hl5) (And.intro hC6 hl6)); clear hR5' hR6 hb hC5 hl5 hC6 hl6
          dsimp only
          refine hK.out _ _ q2 (fun hS3 => ?_)
          clear hK K
          try simp only [Act.put, List.setIfInBounds_toArray, List.set_cons_zero, List.set_cons_succ]
          refine wpAnyH_ready (rs := [4]) (by kernel_rfl) (by simp) ?_
          refine AllReadyH.cons (o := ⟨some 99, _, _, _, _, _⟩) rfl (fun K hK => ?_) AllReadyH.nil
          go_simp
          go_at_call 32
          (with_reducible refine (bellbuoyref15_SameInts.calls _ _ _ _ _ _ _ true _ CC.out.1.1 CC.out.1.2 CC.out.2.1 CC.out.2.2 (same_self _ (toldL_len _ n) N1.out)).mono ?_); rintro e w7 ⟨rfl, hd⟩; have hb := Drawn0.below hd; have X3 := Aside0.mk (X2.out.below hb); have A3 := Aside0.mk (blk_below A2.out hb); have q3 := (act_cells' A3.out).2.1; clear hd hb
          dsimp only
          refine hK.out _ _ q3 (fun hS4 => ?_)
          clear hK K
          try simp only [Act.put, List.setIfInBounds_toArray, List.set_cons_zero, List.set_cons_succ]
          refine wpAnyH_take (i := 5) (oi := ⟨some 100, _, _, _, _, _⟩) (v := (.bool false)) rfl (by kernel_rfl) (by kernel_rfl) (by kernel_rfl) (fun _ _ _ h => h) (Or.inl ⟨by rfl, fun w hSw => by (try dsimp only at hSw); go_simp⟩) (by assumption) ?_
          try simp only [Act.put, List.setIfInBounds_toArray, List.set_cons_zero, List.set_cons_succ]
          refine wpAnyH_take (i := 6) (oi := ⟨some 101, _, _, _, _, _⟩) (v := (.bool false)) rfl (by kernel_rfl) (by kernel_rfl) (by kernel_rfl) (fun _ _ _ h => h) (Or.inl ⟨by rfl, fun w hSw => by (try dsimp only at hSw); go_simp⟩) (by assumption) ?_
          try simp only [Act.put, List.setIfInBounds_toArray, List.set_cons_zero, List.set_cons_succ]
          refine wpAnyH_take (i := 7) (oi := ⟨some 102, _, _, _, _, _⟩) (v := (.pointer (some ⟨f, 0, none⟩))) rfl (by kernel_rfl) (by kernel_rfl) (by kernel_rfl) (fun _ _ _ h => h) (Or.inl ⟨by rfl, fun w hSw => by (try dsimp only at hSw); go_simp⟩) (by assumption) ?_
          try simp only [Act.put, List.setIfInBounds_toArray, List.set_cons_zero, List.set_cons_succ]
          refine wpAnyH_take (i := 8) (oi := ⟨some 103, _, _, _, _, _⟩) (v := (.pointer (some ⟨ab, 1, none⟩))) rfl (by kernel_rfl) (by kernel_rfl) (by kernel_rfl) (fun _ _ _ h => h) (Or.inl ⟨by rfl, fun w hSw => by (try dsimp only at hSw); go_simp⟩) (by assumption) ?_
          try simp only [Act.put, List.setIfInBounds_toArray, List.set_cons_zero, List.set_cons_succ]
          refine wpAnyH_take (i := 9) (oi := ⟨some 104, _, _, _, _, _⟩) (v := (.int .i64 z1)) rfl (by kernel_rfl) (by kernel_rfl) (by kernel_rfl) (fun _ _ _ h => h) (Or.inl ⟨by rfl, fun w hSw => by (try dsimp only at hSw); go_simp⟩) (by assumption) ?_
          try simp only [Act.put, List.setIfInBounds_toArray, List.set_cons_zero, List.set_cons_succ]
          refine wpAnyH_take (i := 11) (oi := ⟨some 106, _, _, _, _, _⟩) (v := (.pointer (some ⟨ab, 1, none⟩))) rfl (by kernel_rfl) (by kernel_rfl) (by kernel_rfl) (fun _ _ _ h => h) (Or.inl ⟨by rfl, fun w hSw => by (try dsimp only at hSw); go_simp⟩) (by assumption) ?_
          try simp only [Act.put, List.setIfInBounds_toArray, List.set_cons_zero, List.set_cons_succ]
          refine wpAnyH_take (i := 12) (oi := ⟨some 107, _, _, _, _, _⟩) (v := (.int .i64 z1)) rfl (by kernel_rfl) (by kernel_rfl) (by kernel_rfl) (fun _ _ _ h => h) (Or.inl ⟨by rfl, fun w hSw => by (try dsimp only at hSw); go_simp⟩) (by assumption) ?_
          try simp only [Act.put, List.setIfInBounds_toArray, List.set_cons_zero, List.set_cons_succ]
          refine wpAnyH_take (i := 13) (oi := ⟨some 108, _, _, _, _, _⟩) (v := (.bool false)) rfl (by kernel_rfl) (by kernel_rfl) (by kernel_rfl) (fun _ _ _ h => h) (Or.inl ⟨by rfl, fun w hSw => by (try dsimp only at hSw); go_simp⟩) (by assumption) ?_
          try simp only [Act.put, List.setIfInBounds_toArray, List.set_cons_zero, List.set_cons_succ]
          refine wpAnyH_ready (rs := [10]) (by kernel_rfl) (by simp) ?_
          refine AllReadyH.cons (o := ⟨some 105, _, _, _, _, _⟩) rfl (fun K hK => ?_) AllReadyH.nil
          go_simp
          go_at_call 35
          (with_reducible refine (AliveL_calls base1 f g n b s p z1 _ LX T1 _ X3.out.P N1.out).mono ?_); rintro e w8 ⟨rfl, hd⟩; have hb := Drawn0.below hd; have X4 := Aside0.mk (X3.out.below hb); have A4 := Aside0.mk (blk_below A3.out hb); have q4 := (act_cells' A4.out).2.1; clear hd hb
          dsimp only
          refine hK.out _ _ q4 (fun hS10 => ?_)
          clear hK K
          try simp only [Act.put, List.setIfInBounds_toArray, List.set_cons_zero, List.set_cons_succ]
          rw [HA.out]
          refine wpAnyH_take (i := 14) (oi := ⟨some 109, _, _, _, _, _⟩) (v := (.bool false)) rfl (by kernel_rfl) (by kernel_rfl) (by kernel_rfl) (fun _ _ _ h => h) (Or.inl ⟨by rfl, fun w hSw => by (try dsimp only at hSw); go_simp⟩) (by assumption) ?_
          try simp only [Act.put, List.setIfInBounds_toArray, List.set_cons_zero, List.set_cons_succ]
          refine wpAnyH_take (i := 15) (oi := ⟨some 110, _, _, _, _, _⟩) (v := undef) rfl (by kernel_rfl) (by kernel_rfl) (by kernel_rfl) (fun _ _ _ h => h) (Or.inr ⟨by rfl, rfl⟩) (by assumption) ?_
          try simp only [Act.put, List.setIfInBounds_toArray, List.set_cons_zero, List.set_cons_succ]
          refine wpAnyH_take (i := 16) (oi := ⟨some 111, _, _, _, _, _⟩) (v := undef) rfl (by kernel_rfl) (by kernel_rfl) (by kernel_rfl) (fun _ _ _ h => h) (Or.inr ⟨by rfl, rfl⟩) (by assumption) ?_
          try simp only [Act.put, List.setIfInBounds_toArray, List.set_cons_zero, List.set_cons_succ]
          refine wpAnyH_take (i := 17) (oi := ⟨some 112, _, _, _, _, _⟩) (v := undef) rfl (by kernel_rfl) (by kernel_rfl) (by kernel_rfl) (fun _ _ _ h => h) (Or.inr ⟨by rfl, rfl⟩) (by assumption) ?_
          try simp only [Act.put, List.setIfInBounds_toArray, List.set_cons_zero, List.set_cons_succ]
          refine wpAnyH_take (i := 18) (oi := ⟨some 113, _, _, _, _, _⟩) (v := undef) rfl (by kernel_rfl) (by kernel_rfl) (by kernel_rfl) (fun _ _ _ h => h) (Or.inr ⟨by rfl, rfl⟩) (by assumption) ?_
          try simp only [Act.put, List.setIfInBounds_toArray, List.set_cons_zero, List.set_cons_succ]
          refine wpAnyH_take (i := 19) (oi := ⟨some 114, _, _, _, _, _⟩) (v := (.bool false)) rfl (by kernel_rfl) (by kernel_rfl) (by kernel_rfl) (fun _ _ _ h => h) (Or.inl ⟨by rfl, fun w hSw => by (try dsimp only at hSw); go_simp⟩) (by assumption) ?_
          try simp only [Act.put, List.setIfInBounds_toArray, List.set_cons_zero, List.set_cons_succ]
          refine wpAnyH_take (i := 20) (oi := ⟨some 115, _, _, _, _, _⟩) (v := (.bool false)) rfl (by kernel_rfl) (by kernel_rfl) (by kernel_rfl) (fun _ _ _ h => h) (Or.inl ⟨by rfl, fun w hSw => by (try dsimp only at hSw); go_simp⟩) (by assumption) ?_
          try simp only [Act.put, List.setIfInBounds_toArray, List.set_cons_zero, List.set_cons_succ]
          refine wpAnyH_take (i := 21) (oi := ⟨some 116, _, _, _, _, _⟩) (v := undef) rfl (by kernel_rfl) (by kernel_rfl) (by kernel_rfl) (fun _ _ _ h => h) (Or.inr ⟨by rfl, rfl⟩) (by assumption) ?_
          try simp only [Act.put, List.setIfInBounds_toArray, List.set_cons_zero, List.set_cons_succ]
          refine wpAnyH_take (i := 22) (oi := ⟨some 117, _, _, _, _, _⟩) (v := undef) rfl (by kernel_rfl) (by kernel_rfl) (by kernel_rfl) (fun _ _ _ h => h) (Or.inr ⟨by rfl, rfl⟩) (by assumption) ?_
          try simp only [Act.put, List.setIfInBounds_toArray, List.set_cons_zero, List.set_cons_succ]
          refine wpAnyH_take (i := 23) (oi := ⟨some 118, _, _, _, _, _⟩) (v := undef) rfl (by kernel_rfl) (by kernel_rfl) (by kernel_rfl) (fun _ _ _ h => h) (Or.inr ⟨by rfl, rfl⟩) (by assumption) ?_
          try simp only [Act.put, List.setIfInBounds_toArray, List.set_cons_zero, List.set_cons_succ]
          refine wpAnyH_take (i := 24) (oi := ⟨some 119, _, _, _, _, _⟩) (v := undef) rfl (by kernel_rfl) (by kernel_rfl) (by kernel_rfl) (fun _ _ _ h => h) (Or.inr ⟨by rfl, rfl⟩) (by assumption) ?_
          try simp only [Act.put, List.setIfInBounds_toArray, List.set_cons_zero, List.set_cons_succ]
          refine wpAnyH_take (i := 25) (oi := ⟨some 120, _, _, _, _, _⟩) (v := undef) rfl (by kernel_rfl) (by kernel_rfl) (by kernel_rfl) (fun _ _ _ h => h) (Or.inr ⟨by rfl, rfl⟩) (by assumption) ?_
          try simp only [Act.put, List.setIfInBounds_toArray, List.set_cons_zero, List.set_cons_succ]
          refine wpAnyH_take (i := 26) (oi := ⟨some 121, _, _, _, _, _⟩) (v := undef) rfl (by kernel_rfl) (by kernel_rfl) (by kernel_rfl) (fun _ _ _ h => h) (Or.inr ⟨by rfl, rfl⟩) (by assumption) ?_
          try simp only [Act.put, List.setIfInBounds_toArray, List.set_cons_zero, List.set_cons_succ]
          refine wpAnyH_take (i := 27) (oi := ⟨some 122, _, _, _, _, _⟩) (v := undef) rfl (by kernel_rfl) (by kernel_rfl) (by kernel_rfl) (fun _ _ _ h => h) (Or.inr ⟨by rfl, rfl⟩) (by assumption) ?_
          try simp only [Act.put, List.setIfInBounds_toArray, List.set_cons_zero, List.set_cons_succ]
          refine wpAnyH_take (i := 28) (oi := ⟨some 123, _, _, _, _, _⟩) (v := undef) rfl (by kernel_rfl) (by kernel_rfl) (by kernel_rfl) (fun _ _ _ h => h) (Or.inr ⟨by rfl, rfl⟩) (by assumption) ?_
          try simp only [Act.put, List.setIfInBounds_toArray, List.set_cons_zero, List.set_cons_succ]
          refine wpAnyH_take (i := 29) (oi := ⟨some 124, _, _, _, _, _⟩) (v := undef) rfl (by kernel_rfl) (by kernel_rfl) (by kernel_rfl) (fun _ _ _ h => h) (Or.inr ⟨by rfl, rfl⟩) (by assumption) ?_
          try simp only [Act.put, List.setIfInBounds_toArray, List.set_cons_zero, List.set_cons_succ]
          refine wpAnyH_take (i := 30) (oi := ⟨some 125, _, _, _, _, _⟩) (v := (.bool false)) rfl (by kernel_rfl) (by kernel_rfl) (by kernel_rfl) (fun _ _ _ h => h) (Or.inl ⟨by rfl, fun w hSw => by (try dsimp only at hSw); go_simp⟩) (by assumption) ?_
          try simp only [Act.put, List.setIfInBounds_toArray, List.set_cons_zero, List.set_cons_succ]
          refine wpAnyH_take (i := 31) (oi := ⟨some 126, _, _, _, _, _⟩) (v := (.bool false)) rfl (by kernel_rfl) (by kernel_rfl) (by kernel_rfl) (fun _ _ _ h => h) (Or.inl ⟨by rfl, fun w hSw => by (try dsimp only at hSw); go_simp⟩) (by assumption) ?_
          try simp only [Act.put, List.setIfInBounds_toArray, List.set_cons_zero, List.set_cons_succ]
          refine wpAnyH_take (i := 32) (oi := ⟨some 127, _, _, _, _, _⟩) (v := (.bool false)) rfl (by kernel_rfl) (by kernel_rfl) (by kernel_rfl) (fun _ _ _ h => h) (Or.inl ⟨by rfl, fun w hSw => by (try dsimp only at hSw); go_simp⟩) (by assumption) ?_
          try simp only [Act.put, List.setIfInBounds_toArray, List.set_cons_zero, List.set_cons_succ]
          refine wpAnyH_done (by kernel_rfl) ?_ _
          go_wp2
          go_roundg k1
          case measure => omega
          case rel => exact ⟨i + 1, _, _, _, _, by first | rw [hi1] | rfl, HI', X4⟩
        · by_cases kn : z1 < (n : Int)
          · have y1 : decide (z1 ≥ 0) = true := decide_eq_true (by omega)
            have y2 : decide (0 ≤ z1) = true := decide_eq_true (by omega)
            have y3 : decide (z1 < (n : Int)) = true := decide_eq_true kn
            have y4 : (0 ≤ z1) = True := eq_true (by omega)
            have y5 : (z1 < (n : Int)) = True := eq_true kn
            obtain ⟨vr, cp, i1, i2⟩ := X0.out.R.fv
            obtain ⟨gcr, i3, i4⟩ := X0.out.R.gv
            have s0 := (blk_cell i1 3).trans (show _ = some (Value.slice (some ⟨gr, 0, none⟩) n cp) from rfl)
            have t0 := (blk_cell i3 z1.toNat).trans (i4 z1.toNat (by omega))
            have hsm := (X0.out.R.nd.at_ z1.toNat (by omega)).some
            have ea : aliveL n LX z1 = (LX z1.toNat).isSome := by unfold aliveL; rw [decide_eq_true (show 0 ≤ z1 ∧ z1 < ((n : Nat) : Int) by omega), Bool.true_and]
            clear i1 i2 i3 i4 kn k0
            cases hq : (HRN z1.toNat) with
            | none =>
              rw [hq] at t0 hsm
              have HA : Aside0 (aliveL n LX z1 = false) := ⟨by rw [ea, ← hsm]; rfl⟩
              clear hq hsm ea
              change _ = some (Value.pointer none) at t0
              go_wp2_with fail
              refine wp_region_held_drew (S := (fun w' : World => w'.cell? ⟨ab, 1, none⟩ = some (.int .i64 z1) ∧ w'.cell? ⟨fr, 3, none⟩ = some (.slice (some ⟨gr, 0, none⟩) n cp) ∧ w'.cell? ⟨gr, z1.toNat, none⟩ = some (.pointer none))) (by kernel_rfl) (And.intro q0 (And.intro s0 t0)) (fun hS0 => ?_)
              refine wpAnyH_take (i := 0) (oi := ⟨some 95, _, _, _, _, _⟩) (v := (.pointer (some ⟨f, 0, none⟩))) rfl (by kernel_rfl) (by kernel_rfl) (by kernel_rfl) (fun _ _ _ h => h) (Or.inl ⟨by rfl, fun w hSw => by (try dsimp only at hSw); go_simp⟩) (by assumption) ?_
              try simp only [Act.put, List.setIfInBounds_toArray, List.set_cons_zero, List.set_cons_succ]
              refine wpAnyH_take (i := 2) (oi := ⟨some 97, _, _, _, _, _⟩) (v := (.pointer (some ⟨fr, 0, none⟩))) rfl (by kernel_rfl) (by kernel_rfl) (by kernel_rfl) (fun _ _ _ h => h) (Or.inl ⟨by rfl, fun w hSw => by (try dsimp only at hSw); go_simp⟩) (by assumption) ?_
              try simp only [Act.put, List.setIfInBounds_toArray, List.set_cons_zero, List.set_cons_succ]
              refine wpAnyH_ready (rs := [1]) (by kernel_rfl) (by simp) ?_
              refine AllReadyH.cons (o := ⟨some 96, _, _, _, _, _⟩) rfl (fun K hK => ?_) AllReadyH.nil
              go_simp
              go_at_call 33
              (with_reducible refine (Masters_calls base1 f g n b s p _ LX T1 _ X0.out.drew.P N1.out).mono ?_); rintro e w5 ⟨v5, rfl, hR5, hb⟩; have hb' := below_step (below_drew1 (Below.refl _ _)) hb; have X1 := Aside0.mk (X0.out.below hb'); have A1 := Aside0.mk (blk_below A0.out hb'); have q1 := (act_cells' A1.out).2.1; have s1 := pw_cell_below hb' s0; have t1 := pw_cell_below hb' t0; (obtain ⟨A5, c5, rfl⟩ := R_slice' hR5); have R5 := Aside0.mk hR5; clear hR5 hb hb'
              dsimp only
              refine hK.out _ _ (And.intro q1 (And.intro s1 t1)) (fun hS1 => ?_)
              clear hK K
              try simp only [Act.put, List.setIfInBounds_toArray, List.set_cons_zero, List.set_cons_succ]
              refine wpAnyH_ready (rs := [3]) (by kernel_rfl) (by simp) ?_
              refine AllReadyH.cons (o := ⟨some 98, _, _, _, _, _⟩) rfl (fun K hK => ?_) AllReadyH.nil
              go_simp
              go_at_call 34
              (with_reducible refine (RMasters_calls base2 fr gr n b s p _ LX T1 _ X1.out.R N1.out).mono ?_); rintro e w6 ⟨v6, rfl, hR6, hb⟩; have hR5' := Kd.R_below R5.out hb; have X2 := Aside0.mk (X1.out.below hb); have A2 := Aside0.mk (blk_below A1.out hb); have q2 := (act_cells' A2.out).2.1; have s2 := pw_cell_below hb s1; have t2 := pw_cell_below hb t1; (obtain ⟨A6, c6, rfl⟩ := R_slice' hR6); obtain ⟨hC5, hl5⟩ := R_C hR5'; obtain ⟨hC6, hl6⟩ := R_C hR6; have CC := Aside0.mk (And.intro (And.intro hC5 hl5) (And.intro hC6 hl6)); clear hR5' hR6 hb hC5 hl5 hC6 hl6
              dsimp only
              refine hK.out _ _ (And.intro q2 (And.intro s2 t2)) (fun hS3 => ?_)
              clear hK K
              try simp only [Act.put, List.setIfInBounds_toArray, List.set_cons_zero, List.set_cons_succ]
              refine wpAnyH_ready (rs := [4]) (by kernel_rfl) (by simp) ?_
              refine AllReadyH.cons (o := ⟨some 99, _, _, _, _, _⟩) rfl (fun K hK => ?_) AllReadyH.nil
              go_simp
              go_at_call 32
              (with_reducible refine (bellbuoyref15_SameInts.calls _ _ _ _ _ _ _ true _ CC.out.1.1 CC.out.1.2 CC.out.2.1 CC.out.2.2 (same_self _ (toldL_len _ n) N1.out)).mono ?_); rintro e w7 ⟨rfl, hd⟩; have hb := Drawn0.below hd; have X3 := Aside0.mk (X2.out.below hb); have A3 := Aside0.mk (blk_below A2.out hb); have q3 := (act_cells' A3.out).2.1; have s3 := pw_cell_below hb s2; have t3 := pw_cell_below hb t2; clear hd hb
              dsimp only
              refine hK.out _ _ (And.intro q3 (And.intro s3 t3)) (fun hS4 => ?_)
              clear hK K
              try simp only [Act.put, List.setIfInBounds_toArray, List.set_cons_zero, List.set_cons_succ]
              refine wpAnyH_take (i := 5) (oi := ⟨some 100, _, _, _, _, _⟩) (v := (.bool false)) rfl (by kernel_rfl) (by kernel_rfl) (by kernel_rfl) (fun _ _ _ h => h) (Or.inl ⟨by rfl, fun w hSw => by (try dsimp only at hSw); go_simp⟩) (by assumption) ?_
              try simp only [Act.put, List.setIfInBounds_toArray, List.set_cons_zero, List.set_cons_succ]
              refine wpAnyH_take (i := 6) (oi := ⟨some 101, _, _, _, _, _⟩) (v := (.bool false)) rfl (by kernel_rfl) (by kernel_rfl) (by kernel_rfl) (fun _ _ _ h => h) (Or.inl ⟨by rfl, fun w hSw => by (try dsimp only at hSw); go_simp⟩) (by assumption) ?_
              try simp only [Act.put, List.setIfInBounds_toArray, List.set_cons_zero, List.set_cons_succ]
              refine wpAnyH_take (i := 7) (oi := ⟨some 102, _, _, _, _, _⟩) (v := (.pointer (some ⟨f, 0, none⟩))) rfl (by kernel_rfl) (by kernel_rfl) (by kernel_rfl) (fun _ _ _ h => h) (Or.inl ⟨by rfl, fun w hSw => by (try dsimp only at hSw); go_simp⟩) (by assumption) ?_
              try simp only [Act.put, List.setIfInBounds_toArray, List.set_cons_zero, List.set_cons_succ]
              refine wpAnyH_take (i := 8) (oi := ⟨some 103, _, _, _, _, _⟩) (v := (.pointer (some ⟨ab, 1, none⟩))) rfl (by kernel_rfl) (by kernel_rfl) (by kernel_rfl) (fun _ _ _ h => h) (Or.inl ⟨by rfl, fun w hSw => by (try dsimp only at hSw); go_simp⟩) (by assumption) ?_
              try simp only [Act.put, List.setIfInBounds_toArray, List.set_cons_zero, List.set_cons_succ]
              refine wpAnyH_take (i := 9) (oi := ⟨some 104, _, _, _, _, _⟩) (v := (.int .i64 z1)) rfl (by kernel_rfl) (by kernel_rfl) (by kernel_rfl) (fun _ _ _ h => h) (Or.inl ⟨by rfl, fun w hSw => by (try dsimp only at hSw); go_simp⟩) (by assumption) ?_
              try simp only [Act.put, List.setIfInBounds_toArray, List.set_cons_zero, List.set_cons_succ]
              refine wpAnyH_take (i := 11) (oi := ⟨some 106, _, _, _, _, _⟩) (v := (.pointer (some ⟨ab, 1, none⟩))) rfl (by kernel_rfl) (by kernel_rfl) (by kernel_rfl) (fun _ _ _ h => h) (Or.inl ⟨by rfl, fun w hSw => by (try dsimp only at hSw); go_simp⟩) (by assumption) ?_
              try simp only [Act.put, List.setIfInBounds_toArray, List.set_cons_zero, List.set_cons_succ]
              refine wpAnyH_take (i := 12) (oi := ⟨some 107, _, _, _, _, _⟩) (v := (.int .i64 z1)) rfl (by kernel_rfl) (by kernel_rfl) (by kernel_rfl) (fun _ _ _ h => h) (Or.inl ⟨by rfl, fun w hSw => by (try dsimp only at hSw); go_simp⟩) (by assumption) ?_
              try simp only [Act.put, List.setIfInBounds_toArray, List.set_cons_zero, List.set_cons_succ]
              refine wpAnyH_take (i := 13) (oi := ⟨some 108, _, _, _, _, _⟩) (v := (.bool true)) rfl (by kernel_rfl) (by kernel_rfl) (by kernel_rfl) (fun _ _ _ h => h) (Or.inl ⟨by rfl, fun w hSw => by (try dsimp only at hSw); go_simp⟩) (by assumption) ?_
              try simp only [Act.put, List.setIfInBounds_toArray, List.set_cons_zero, List.set_cons_succ]
              refine wpAnyH_ready (rs := [10]) (by kernel_rfl) (by simp) ?_
              refine AllReadyH.cons (o := ⟨some 105, _, _, _, _, _⟩) rfl (fun K hK => ?_) AllReadyH.nil
              go_simp
              go_at_call 35
              (with_reducible refine (AliveL_calls base1 f g n b s p z1 _ LX T1 _ X3.out.P N1.out).mono ?_); rintro e w8 ⟨rfl, hd⟩; have hb := Drawn0.below hd; have X4 := Aside0.mk (X3.out.below hb); have A4 := Aside0.mk (blk_below A3.out hb); have q4 := (act_cells' A4.out).2.1; have s4 := pw_cell_below hb s3; have t4 := pw_cell_below hb t3; clear hd hb
              dsimp only
              refine hK.out _ _ (And.intro q4 (And.intro s4 t4)) (fun hS10 => ?_)
              clear hK K
              try simp only [Act.put, List.setIfInBounds_toArray, List.set_cons_zero, List.set_cons_succ]
              rw [HA.out]
              refine wpAnyH_take (i := 14) (oi := ⟨some 109, _, _, _, _, _⟩) (v := (.bool true)) rfl (by kernel_rfl) (by kernel_rfl) (by kernel_rfl) (fun _ _ _ h => h) (Or.inl ⟨by rfl, fun w hSw => by (try dsimp only at hSw); go_simp⟩) (by assumption) ?_
              try simp only [Act.put, List.setIfInBounds_toArray, List.set_cons_zero, List.set_cons_succ]
              refine wpAnyH_take (i := 15) (oi := ⟨some 110, _, _, _, _, _⟩) (v := (.pointer (some ⟨ab, 1, none⟩))) rfl (by kernel_rfl) (by kernel_rfl) (by kernel_rfl) (fun _ _ _ h => h) (Or.inl ⟨by rfl, fun w hSw => by (try dsimp only at hSw); go_simp⟩) (by assumption) ?_
              try simp only [Act.put, List.setIfInBounds_toArray, List.set_cons_zero, List.set_cons_succ]
              refine wpAnyH_take (i := 16) (oi := ⟨some 111, _, _, _, _, _⟩) (v := (.int .i64 z1)) rfl (by kernel_rfl) (by kernel_rfl) (by kernel_rfl) (fun _ _ _ h => h) (Or.inl ⟨by rfl, fun w hSw => by (try dsimp only at hSw); go_simp⟩) (by assumption) ?_
              try simp only [Act.put, List.setIfInBounds_toArray, List.set_cons_zero, List.set_cons_succ]
              refine wpAnyH_take (i := 17) (oi := ⟨some 112, _, _, _, _, _⟩) (v := (.int .i64 (n : Int))) rfl (by kernel_rfl) (by kernel_rfl) (by kernel_rfl) (fun _ _ _ h => h) (Or.inl ⟨by rfl, fun w hSw => by (try dsimp only at hSw); go_simp⟩) (by assumption) ?_
              try simp only [Act.put, List.setIfInBounds_toArray, List.set_cons_zero, List.set_cons_succ]
              refine wpAnyH_take (i := 18) (oi := ⟨some 113, _, _, _, _, _⟩) (v := (.bool true)) rfl (by kernel_rfl) (by kernel_rfl) (by kernel_rfl) (fun _ _ _ h => h) (Or.inl ⟨by rfl, fun w hSw => by (try dsimp only at hSw); go_simp⟩) (by assumption) ?_
              try simp only [Act.put, List.setIfInBounds_toArray, List.set_cons_zero, List.set_cons_succ]
              refine wpAnyH_take (i := 19) (oi := ⟨some 114, _, _, _, _, _⟩) (v := (.bool true)) rfl (by kernel_rfl) (by kernel_rfl) (by kernel_rfl) (fun _ _ _ h => h) (Or.inl ⟨by rfl, fun w hSw => by (try dsimp only at hSw); go_simp⟩) (by assumption) ?_
              try simp only [Act.put, List.setIfInBounds_toArray, List.set_cons_zero, List.set_cons_succ]
              refine wpAnyH_take (i := 20) (oi := ⟨some 115, _, _, _, _, _⟩) (v := (.bool true)) rfl (by kernel_rfl) (by kernel_rfl) (by kernel_rfl) (fun _ _ _ h => h) (Or.inl ⟨by rfl, fun w hSw => by (try dsimp only at hSw); go_simp⟩) (by assumption) ?_
              try simp only [Act.put, List.setIfInBounds_toArray, List.set_cons_zero, List.set_cons_succ]
              refine wpAnyH_take (i := 21) (oi := ⟨some 116, _, _, _, _, _⟩) (v := (.pointer (some ⟨fr, 0, none⟩))) rfl (by kernel_rfl) (by kernel_rfl) (by kernel_rfl) (fun _ _ _ h => h) (Or.inl ⟨by rfl, fun w hSw => by (try dsimp only at hSw); go_simp⟩) (by assumption) ?_
              try simp only [Act.put, List.setIfInBounds_toArray, List.set_cons_zero, List.set_cons_succ]
              refine wpAnyH_take (i := 22) (oi := ⟨some 117, _, _, _, _, _⟩) (v := (.pointer (some ⟨fr, 0, none⟩))) rfl (by kernel_rfl) (by kernel_rfl) (by kernel_rfl) (fun _ _ _ h => h) (Or.inl ⟨by rfl, fun w hSw => by (try dsimp only at hSw); go_simp⟩) (by assumption) ?_
              try simp only [Act.put, List.setIfInBounds_toArray, List.set_cons_zero, List.set_cons_succ]
              refine wpAnyH_take (i := 23) (oi := ⟨some 118, _, _, _, _, _⟩) (v := (.pointer (some ⟨fr, 3, none⟩))) rfl (by kernel_rfl) (by kernel_rfl) (by kernel_rfl) (fun _ _ _ h => h) (Or.inl ⟨by rfl, fun w hSw => by (try dsimp only at hSw); go_simp⟩) (by assumption) ?_
              try simp only [Act.put, List.setIfInBounds_toArray, List.set_cons_zero, List.set_cons_succ]
              refine wpAnyH_take (i := 24) (oi := ⟨some 119, _, _, _, _, _⟩) (v := (.slice (some ⟨gr, 0, none⟩) n cp)) rfl (by kernel_rfl) (by kernel_rfl) (by kernel_rfl) (fun _ _ _ h => h) (Or.inl ⟨by rfl, fun w hSw => by (try dsimp only at hSw); go_simp⟩) (by assumption) ?_
              try simp only [Act.put, List.setIfInBounds_toArray, List.set_cons_zero, List.set_cons_succ]
              refine wpAnyH_take (i := 25) (oi := ⟨some 120, _, _, _, _, _⟩) (v := (.pointer (some ⟨ab, 1, none⟩))) rfl (by kernel_rfl) (by kernel_rfl) (by kernel_rfl) (fun _ _ _ h => h) (Or.inl ⟨by rfl, fun w hSw => by (try dsimp only at hSw); go_simp⟩) (by assumption) ?_
              try simp only [Act.put, List.setIfInBounds_toArray, List.set_cons_zero, List.set_cons_succ]
              refine wpAnyH_take (i := 26) (oi := ⟨some 121, _, _, _, _, _⟩) (v := (.int .i64 z1)) rfl (by kernel_rfl) (by kernel_rfl) (by kernel_rfl) (fun _ _ _ h => h) (Or.inl ⟨by rfl, fun w hSw => by (try dsimp only at hSw); go_simp⟩) (by assumption) ?_
              try simp only [Act.put, List.setIfInBounds_toArray, List.set_cons_zero, List.set_cons_succ]
              refine wpAnyH_take (i := 27) (oi := ⟨some 122, _, _, _, _, _⟩) (v := (.pointer (some ⟨gr, z1.toNat, none⟩))) rfl (by kernel_rfl) (by kernel_rfl) (by kernel_rfl) (fun _ _ _ h => h) (Or.inl ⟨by rfl, fun w hSw => by (try dsimp only at hSw); go_simp⟩) (by assumption) ?_
              try simp only [Act.put, List.setIfInBounds_toArray, List.set_cons_zero, List.set_cons_succ]
              refine wpAnyH_take (i := 28) (oi := ⟨some 123, _, _, _, _, _⟩) (v := (.pointer none)) rfl (by kernel_rfl) (by kernel_rfl) (by kernel_rfl) (fun _ _ _ h => h) (Or.inl ⟨by rfl, fun w hSw => by (try dsimp only at hSw); go_simp⟩) (by assumption) ?_
              try simp only [Act.put, List.setIfInBounds_toArray, List.set_cons_zero, List.set_cons_succ]
              refine wpAnyH_take (i := 29) (oi := ⟨some 124, _, _, _, _, _⟩) (v := (.bool false)) rfl (by kernel_rfl) (by kernel_rfl) (by kernel_rfl) (fun _ _ _ h => h) (Or.inl ⟨by rfl, fun w hSw => by (try dsimp only at hSw); go_simp⟩) (by assumption) ?_
              try simp only [Act.put, List.setIfInBounds_toArray, List.set_cons_zero, List.set_cons_succ]
              refine wpAnyH_take (i := 30) (oi := ⟨some 125, _, _, _, _, _⟩) (v := (.bool false)) rfl (by kernel_rfl) (by kernel_rfl) (by kernel_rfl) (fun _ _ _ h => h) (Or.inl ⟨by rfl, fun w hSw => by (try dsimp only at hSw); go_simp⟩) (by assumption) ?_
              try simp only [Act.put, List.setIfInBounds_toArray, List.set_cons_zero, List.set_cons_succ]
              refine wpAnyH_take (i := 31) (oi := ⟨some 126, _, _, _, _, _⟩) (v := (.bool false)) rfl (by kernel_rfl) (by kernel_rfl) (by kernel_rfl) (fun _ _ _ h => h) (Or.inl ⟨by rfl, fun w hSw => by (try dsimp only at hSw); go_simp⟩) (by assumption) ?_
              try simp only [Act.put, List.setIfInBounds_toArray, List.set_cons_zero, List.set_cons_succ]
              refine wpAnyH_take (i := 32) (oi := ⟨some 127, _, _, _, _, _⟩) (v := (.bool false)) rfl (by kernel_rfl) (by kernel_rfl) (by kernel_rfl) (fun _ _ _ h => h) (Or.inl ⟨by rfl, fun w hSw => by (try dsimp only at hSw); go_simp⟩) (by assumption) ?_
              try simp only [Act.put, List.setIfInBounds_toArray, List.set_cons_zero, List.set_cons_succ]
              refine wpAnyH_done (by kernel_rfl) ?_ _
              go_wp2
              go_roundg k1
              case measure => omega
              case rel => exact ⟨i + 1, _, _, _, _, by first | rw [hi1] | rfl, HI', X4⟩
            | some qq =>
              rw [hq] at t0 hsm
              have HA : Aside0 (aliveL n LX z1 = true) := ⟨by rw [ea, ← hsm]; rfl⟩
              clear hq hsm ea
              change _ = some (Value.pointer (some ⟨qq, 0, none⟩)) at t0
              go_wp2_with fail
              refine wp_region_held_drew (S := (fun w' : World => w'.cell? ⟨ab, 1, none⟩ = some (.int .i64 z1) ∧ w'.cell? ⟨fr, 3, none⟩ = some (.slice (some ⟨gr, 0, none⟩) n cp) ∧ w'.cell? ⟨gr, z1.toNat, none⟩ = some (.pointer (some ⟨qq, 0, none⟩)))) (by kernel_rfl) (And.intro q0 (And.intro s0 t0)) (fun hS0 => ?_)
              refine wpAnyH_take (i := 0) (oi := ⟨some 95, _, _, _, _, _⟩) (v := (.pointer (some ⟨f, 0, none⟩))) rfl (by kernel_rfl) (by kernel_rfl) (by kernel_rfl) (fun _ _ _ h => h) (Or.inl ⟨by rfl, fun w hSw => by (try dsimp only at hSw); go_simp⟩) (by assumption) ?_
              try simp only [Act.put, List.setIfInBounds_toArray, List.set_cons_zero, List.set_cons_succ]
              refine wpAnyH_take (i := 2) (oi := ⟨some 97, _, _, _, _, _⟩) (v := (.pointer (some ⟨fr, 0, none⟩))) rfl (by kernel_rfl) (by kernel_rfl) (by kernel_rfl) (fun _ _ _ h => h) (Or.inl ⟨by rfl, fun w hSw => by (try dsimp only at hSw); go_simp⟩) (by assumption) ?_
              try simp only [Act.put, List.setIfInBounds_toArray, List.set_cons_zero, List.set_cons_succ]
              refine wpAnyH_ready (rs := [1]) (by kernel_rfl) (by simp) ?_
              refine AllReadyH.cons (o := ⟨some 96, _, _, _, _, _⟩) rfl (fun K hK => ?_) AllReadyH.nil
              go_simp
              go_at_call 33
              (with_reducible refine (Masters_calls base1 f g n b s p _ LX T1 _ X0.out.drew.P N1.out).mono ?_); rintro e w5 ⟨v5, rfl, hR5, hb⟩; have hb' := below_step (below_drew1 (Below.refl _ _)) hb; have X1 := Aside0.mk (X0.out.below hb'); have A1 := Aside0.mk (blk_below A0.out hb'); have q1 := (act_cells' A1.out).2.1; have s1 := pw_cell_below hb' s0; have t1 := pw_cell_below hb' t0; (obtain ⟨A5, c5, rfl⟩ := R_slice' hR5); have R5 := Aside0.mk hR5; clear hR5 hb hb'
              dsimp only
              refine hK.out _ _ (And.intro q1 (And.intro s1 t1)) (fun hS1 => ?_)
              clear hK K
              try simp only [Act.put, List.setIfInBounds_toArray, List.set_cons_zero, List.set_cons_succ]
              refine wpAnyH_ready (rs := [3]) (by kernel_rfl) (by simp) ?_
              refine AllReadyH.cons (o := ⟨some 98, _, _, _, _, _⟩) rfl (fun K hK => ?_) AllReadyH.nil
              go_simp
              go_at_call 34
              (with_reducible refine (RMasters_calls base2 fr gr n b s p _ LX T1 _ X1.out.R N1.out).mono ?_); rintro e w6 ⟨v6, rfl, hR6, hb⟩; have hR5' := Kd.R_below R5.out hb; have X2 := Aside0.mk (X1.out.below hb); have A2 := Aside0.mk (blk_below A1.out hb); have q2 := (act_cells' A2.out).2.1; have s2 := pw_cell_below hb s1; have t2 := pw_cell_below hb t1; (obtain ⟨A6, c6, rfl⟩ := R_slice' hR6); obtain ⟨hC5, hl5⟩ := R_C hR5'; obtain ⟨hC6, hl6⟩ := R_C hR6; have CC := Aside0.mk (And.intro (And.intro hC5 hl5) (And.intro hC6 hl6)); clear hR5' hR6 hb hC5 hl5 hC6 hl6
              dsimp only
              refine hK.out _ _ (And.intro q2 (And.intro s2 t2)) (fun hS3 => ?_)
              clear hK K
              try simp only [Act.put, List.setIfInBounds_toArray, List.set_cons_zero, List.set_cons_succ]
              refine wpAnyH_ready (rs := [4]) (by kernel_rfl) (by simp) ?_
              refine AllReadyH.cons (o := ⟨some 99, _, _, _, _, _⟩) rfl (fun K hK => ?_) AllReadyH.nil
              go_simp
              go_at_call 32
              (with_reducible refine (bellbuoyref15_SameInts.calls _ _ _ _ _ _ _ true _ CC.out.1.1 CC.out.1.2 CC.out.2.1 CC.out.2.2 (same_self _ (toldL_len _ n) N1.out)).mono ?_); rintro e w7 ⟨rfl, hd⟩; have hb := Drawn0.below hd; have X3 := Aside0.mk (X2.out.below hb); have A3 := Aside0.mk (blk_below A2.out hb); have q3 := (act_cells' A3.out).2.1; have s3 := pw_cell_below hb s2; have t3 := pw_cell_below hb t2; clear hd hb
              dsimp only
              refine hK.out _ _ (And.intro q3 (And.intro s3 t3)) (fun hS4 => ?_)
              clear hK K
              try simp only [Act.put, List.setIfInBounds_toArray, List.set_cons_zero, List.set_cons_succ]
              refine wpAnyH_take (i := 5) (oi := ⟨some 100, _, _, _, _, _⟩) (v := (.bool false)) rfl (by kernel_rfl) (by kernel_rfl) (by kernel_rfl) (fun _ _ _ h => h) (Or.inl ⟨by rfl, fun w hSw => by (try dsimp only at hSw); go_simp⟩) (by assumption) ?_
              try simp only [Act.put, List.setIfInBounds_toArray, List.set_cons_zero, List.set_cons_succ]
              refine wpAnyH_take (i := 6) (oi := ⟨some 101, _, _, _, _, _⟩) (v := (.bool false)) rfl (by kernel_rfl) (by kernel_rfl) (by kernel_rfl) (fun _ _ _ h => h) (Or.inl ⟨by rfl, fun w hSw => by (try dsimp only at hSw); go_simp⟩) (by assumption) ?_
              try simp only [Act.put, List.setIfInBounds_toArray, List.set_cons_zero, List.set_cons_succ]
              refine wpAnyH_take (i := 7) (oi := ⟨some 102, _, _, _, _, _⟩) (v := (.pointer (some ⟨f, 0, none⟩))) rfl (by kernel_rfl) (by kernel_rfl) (by kernel_rfl) (fun _ _ _ h => h) (Or.inl ⟨by rfl, fun w hSw => by (try dsimp only at hSw); go_simp⟩) (by assumption) ?_
              try simp only [Act.put, List.setIfInBounds_toArray, List.set_cons_zero, List.set_cons_succ]
              refine wpAnyH_take (i := 8) (oi := ⟨some 103, _, _, _, _, _⟩) (v := (.pointer (some ⟨ab, 1, none⟩))) rfl (by kernel_rfl) (by kernel_rfl) (by kernel_rfl) (fun _ _ _ h => h) (Or.inl ⟨by rfl, fun w hSw => by (try dsimp only at hSw); go_simp⟩) (by assumption) ?_
              try simp only [Act.put, List.setIfInBounds_toArray, List.set_cons_zero, List.set_cons_succ]
              refine wpAnyH_take (i := 9) (oi := ⟨some 104, _, _, _, _, _⟩) (v := (.int .i64 z1)) rfl (by kernel_rfl) (by kernel_rfl) (by kernel_rfl) (fun _ _ _ h => h) (Or.inl ⟨by rfl, fun w hSw => by (try dsimp only at hSw); go_simp⟩) (by assumption) ?_
              try simp only [Act.put, List.setIfInBounds_toArray, List.set_cons_zero, List.set_cons_succ]
              refine wpAnyH_take (i := 11) (oi := ⟨some 106, _, _, _, _, _⟩) (v := (.pointer (some ⟨ab, 1, none⟩))) rfl (by kernel_rfl) (by kernel_rfl) (by kernel_rfl) (fun _ _ _ h => h) (Or.inl ⟨by rfl, fun w hSw => by (try dsimp only at hSw); go_simp⟩) (by assumption) ?_
              try simp only [Act.put, List.setIfInBounds_toArray, List.set_cons_zero, List.set_cons_succ]
              refine wpAnyH_take (i := 12) (oi := ⟨some 107, _, _, _, _, _⟩) (v := (.int .i64 z1)) rfl (by kernel_rfl) (by kernel_rfl) (by kernel_rfl) (fun _ _ _ h => h) (Or.inl ⟨by rfl, fun w hSw => by (try dsimp only at hSw); go_simp⟩) (by assumption) ?_
              try simp only [Act.put, List.setIfInBounds_toArray, List.set_cons_zero, List.set_cons_succ]
              refine wpAnyH_take (i := 13) (oi := ⟨some 108, _, _, _, _, _⟩) (v := (.bool true)) rfl (by kernel_rfl) (by kernel_rfl) (by kernel_rfl) (fun _ _ _ h => h) (Or.inl ⟨by rfl, fun w hSw => by (try dsimp only at hSw); go_simp⟩) (by assumption) ?_
              try simp only [Act.put, List.setIfInBounds_toArray, List.set_cons_zero, List.set_cons_succ]
              refine wpAnyH_ready (rs := [10]) (by kernel_rfl) (by simp) ?_
              refine AllReadyH.cons (o := ⟨some 105, _, _, _, _, _⟩) rfl (fun K hK => ?_) AllReadyH.nil
              go_simp
              go_at_call 35
              (with_reducible refine (AliveL_calls base1 f g n b s p z1 _ LX T1 _ X3.out.P N1.out).mono ?_); rintro e w8 ⟨rfl, hd⟩; have hb := Drawn0.below hd; have X4 := Aside0.mk (X3.out.below hb); have A4 := Aside0.mk (blk_below A3.out hb); have q4 := (act_cells' A4.out).2.1; have s4 := pw_cell_below hb s3; have t4 := pw_cell_below hb t3; clear hd hb
              dsimp only
              refine hK.out _ _ (And.intro q4 (And.intro s4 t4)) (fun hS10 => ?_)
              clear hK K
              try simp only [Act.put, List.setIfInBounds_toArray, List.set_cons_zero, List.set_cons_succ]
              rw [HA.out]
              refine wpAnyH_take (i := 14) (oi := ⟨some 109, _, _, _, _, _⟩) (v := (.bool true)) rfl (by kernel_rfl) (by kernel_rfl) (by kernel_rfl) (fun _ _ _ h => h) (Or.inl ⟨by rfl, fun w hSw => by (try dsimp only at hSw); go_simp⟩) (by assumption) ?_
              try simp only [Act.put, List.setIfInBounds_toArray, List.set_cons_zero, List.set_cons_succ]
              refine wpAnyH_take (i := 15) (oi := ⟨some 110, _, _, _, _, _⟩) (v := (.pointer (some ⟨ab, 1, none⟩))) rfl (by kernel_rfl) (by kernel_rfl) (by kernel_rfl) (fun _ _ _ h => h) (Or.inl ⟨by rfl, fun w hSw => by (try dsimp only at hSw); go_simp⟩) (by assumption) ?_
              try simp only [Act.put, List.setIfInBounds_toArray, List.set_cons_zero, List.set_cons_succ]
              refine wpAnyH_take (i := 16) (oi := ⟨some 111, _, _, _, _, _⟩) (v := (.int .i64 z1)) rfl (by kernel_rfl) (by kernel_rfl) (by kernel_rfl) (fun _ _ _ h => h) (Or.inl ⟨by rfl, fun w hSw => by (try dsimp only at hSw); go_simp⟩) (by assumption) ?_
              try simp only [Act.put, List.setIfInBounds_toArray, List.set_cons_zero, List.set_cons_succ]
              refine wpAnyH_take (i := 17) (oi := ⟨some 112, _, _, _, _, _⟩) (v := (.int .i64 (n : Int))) rfl (by kernel_rfl) (by kernel_rfl) (by kernel_rfl) (fun _ _ _ h => h) (Or.inl ⟨by rfl, fun w hSw => by (try dsimp only at hSw); go_simp⟩) (by assumption) ?_
              try simp only [Act.put, List.setIfInBounds_toArray, List.set_cons_zero, List.set_cons_succ]
              refine wpAnyH_take (i := 18) (oi := ⟨some 113, _, _, _, _, _⟩) (v := (.bool true)) rfl (by kernel_rfl) (by kernel_rfl) (by kernel_rfl) (fun _ _ _ h => h) (Or.inl ⟨by rfl, fun w hSw => by (try dsimp only at hSw); go_simp⟩) (by assumption) ?_
              try simp only [Act.put, List.setIfInBounds_toArray, List.set_cons_zero, List.set_cons_succ]
              refine wpAnyH_take (i := 19) (oi := ⟨some 114, _, _, _, _, _⟩) (v := (.bool true)) rfl (by kernel_rfl) (by kernel_rfl) (by kernel_rfl) (fun _ _ _ h => h) (Or.inl ⟨by rfl, fun w hSw => by (try dsimp only at hSw); go_simp⟩) (by assumption) ?_
              try simp only [Act.put, List.setIfInBounds_toArray, List.set_cons_zero, List.set_cons_succ]
              refine wpAnyH_take (i := 20) (oi := ⟨some 115, _, _, _, _, _⟩) (v := (.bool true)) rfl (by kernel_rfl) (by kernel_rfl) (by kernel_rfl) (fun _ _ _ h => h) (Or.inl ⟨by rfl, fun w hSw => by (try dsimp only at hSw); go_simp⟩) (by assumption) ?_
              try simp only [Act.put, List.setIfInBounds_toArray, List.set_cons_zero, List.set_cons_succ]
              refine wpAnyH_take (i := 21) (oi := ⟨some 116, _, _, _, _, _⟩) (v := (.pointer (some ⟨fr, 0, none⟩))) rfl (by kernel_rfl) (by kernel_rfl) (by kernel_rfl) (fun _ _ _ h => h) (Or.inl ⟨by rfl, fun w hSw => by (try dsimp only at hSw); go_simp⟩) (by assumption) ?_
              try simp only [Act.put, List.setIfInBounds_toArray, List.set_cons_zero, List.set_cons_succ]
              refine wpAnyH_take (i := 22) (oi := ⟨some 117, _, _, _, _, _⟩) (v := (.pointer (some ⟨fr, 0, none⟩))) rfl (by kernel_rfl) (by kernel_rfl) (by kernel_rfl) (fun _ _ _ h => h) (Or.inl ⟨by rfl, fun w hSw => by (try dsimp only at hSw); go_simp⟩) (by assumption) ?_
              try simp only [Act.put, List.setIfInBounds_toArray, List.set_cons_zero, List.set_cons_succ]
              refine wpAnyH_take (i := 23) (oi := ⟨some 118, _, _, _, _, _⟩) (v := (.pointer (some ⟨fr, 3, none⟩))) rfl (by kernel_rfl) (by kernel_rfl) (by kernel_rfl) (fun _ _ _ h => h) (Or.inl ⟨by rfl, fun w hSw => by (try dsimp only at hSw); go_simp⟩) (by assumption) ?_
              try simp only [Act.put, List.setIfInBounds_toArray, List.set_cons_zero, List.set_cons_succ]
              refine wpAnyH_take (i := 24) (oi := ⟨some 119, _, _, _, _, _⟩) (v := (.slice (some ⟨gr, 0, none⟩) n cp)) rfl (by kernel_rfl) (by kernel_rfl) (by kernel_rfl) (fun _ _ _ h => h) (Or.inl ⟨by rfl, fun w hSw => by (try dsimp only at hSw); go_simp⟩) (by assumption) ?_
              try simp only [Act.put, List.setIfInBounds_toArray, List.set_cons_zero, List.set_cons_succ]
              refine wpAnyH_take (i := 25) (oi := ⟨some 120, _, _, _, _, _⟩) (v := (.pointer (some ⟨ab, 1, none⟩))) rfl (by kernel_rfl) (by kernel_rfl) (by kernel_rfl) (fun _ _ _ h => h) (Or.inl ⟨by rfl, fun w hSw => by (try dsimp only at hSw); go_simp⟩) (by assumption) ?_
              try simp only [Act.put, List.setIfInBounds_toArray, List.set_cons_zero, List.set_cons_succ]
              refine wpAnyH_take (i := 26) (oi := ⟨some 121, _, _, _, _, _⟩) (v := (.int .i64 z1)) rfl (by kernel_rfl) (by kernel_rfl) (by kernel_rfl) (fun _ _ _ h => h) (Or.inl ⟨by rfl, fun w hSw => by (try dsimp only at hSw); go_simp⟩) (by assumption) ?_
              try simp only [Act.put, List.setIfInBounds_toArray, List.set_cons_zero, List.set_cons_succ]
              refine wpAnyH_take (i := 27) (oi := ⟨some 122, _, _, _, _, _⟩) (v := (.pointer (some ⟨gr, z1.toNat, none⟩))) rfl (by kernel_rfl) (by kernel_rfl) (by kernel_rfl) (fun _ _ _ h => h) (Or.inl ⟨by rfl, fun w hSw => by (try dsimp only at hSw); go_simp⟩) (by assumption) ?_
              try simp only [Act.put, List.setIfInBounds_toArray, List.set_cons_zero, List.set_cons_succ]
              refine wpAnyH_take (i := 28) (oi := ⟨some 123, _, _, _, _, _⟩) (v := (.pointer (some ⟨qq, 0, none⟩))) rfl (by kernel_rfl) (by kernel_rfl) (by kernel_rfl) (fun _ _ _ h => h) (Or.inl ⟨by rfl, fun w hSw => by (try dsimp only at hSw); go_simp⟩) (by assumption) ?_
              try simp only [Act.put, List.setIfInBounds_toArray, List.set_cons_zero, List.set_cons_succ]
              refine wpAnyH_take (i := 29) (oi := ⟨some 124, _, _, _, _, _⟩) (v := (.bool true)) rfl (by kernel_rfl) (by kernel_rfl) (by kernel_rfl) (fun _ _ _ h => h) (Or.inl ⟨by rfl, fun w hSw => by (try dsimp only at hSw); go_simp⟩) (by assumption) ?_
              try simp only [Act.put, List.setIfInBounds_toArray, List.set_cons_zero, List.set_cons_succ]
              refine wpAnyH_take (i := 30) (oi := ⟨some 125, _, _, _, _, _⟩) (v := (.bool true)) rfl (by kernel_rfl) (by kernel_rfl) (by kernel_rfl) (fun _ _ _ h => h) (Or.inl ⟨by rfl, fun w hSw => by (try dsimp only at hSw); go_simp⟩) (by assumption) ?_
              try simp only [Act.put, List.setIfInBounds_toArray, List.set_cons_zero, List.set_cons_succ]
              refine wpAnyH_take (i := 31) (oi := ⟨some 126, _, _, _, _, _⟩) (v := (.bool false)) rfl (by kernel_rfl) (by kernel_rfl) (by kernel_rfl) (fun _ _ _ h => h) (Or.inl ⟨by rfl, fun w hSw => by (try dsimp only at hSw); go_simp⟩) (by assumption) ?_
              try simp only [Act.put, List.setIfInBounds_toArray, List.set_cons_zero, List.set_cons_succ]
              refine wpAnyH_take (i := 32) (oi := ⟨some 127, _, _, _, _, _⟩) (v := (.bool false)) rfl (by kernel_rfl) (by kernel_rfl) (by kernel_rfl) (fun _ _ _ h => h) (Or.inl ⟨by rfl, fun w hSw => by (try dsimp only at hSw); go_simp⟩) (by assumption) ?_
              try simp only [Act.put, List.setIfInBounds_toArray, List.set_cons_zero, List.set_cons_succ]
              refine wpAnyH_done (by kernel_rfl) ?_ _
              go_wp2
              go_roundg k1
              case measure => omega
              case rel => exact ⟨i + 1, _, _, _, _, by first | rw [hi1] | rfl, HI', X4⟩
          · have HA : Aside0 (aliveL n LX z1 = false) := ⟨by unfold aliveL; rw [decide_eq_false (by omega), Bool.false_and]⟩
            have y1 : decide (z1 ≥ 0) = true := decide_eq_true (by omega)
            have y2 : decide (0 ≤ z1) = true := decide_eq_true (by omega)
            have y3 : decide (z1 < (n : Int)) = false := decide_eq_false kn
            clear k0 kn
            go_wp2_with fail
            refine wp_region_held_drew (S := (fun w' : World => w'.cell? ⟨ab, 1, none⟩ = some (.int .i64 z1))) (by kernel_rfl) q0 (fun hS0 => ?_)
            refine wpAnyH_take (i := 0) (oi := ⟨some 95, _, _, _, _, _⟩) (v := (.pointer (some ⟨f, 0, none⟩))) rfl (by kernel_rfl) (by kernel_rfl) (by kernel_rfl) (fun _ _ _ h => h) (Or.inl ⟨by rfl, fun w hSw => by (try dsimp only at hSw); go_simp⟩) (by assumption) ?_
            try simp only [Act.put, List.setIfInBounds_toArray, List.set_cons_zero, List.set_cons_succ]
            refine wpAnyH_take (i := 2) (oi := ⟨some 97, _, _, _, _, _⟩) (v := (.pointer (some ⟨fr, 0, none⟩))) rfl (by kernel_rfl) (by kernel_rfl) (by kernel_rfl) (fun _ _ _ h => h) (Or.inl ⟨by rfl, fun w hSw => by (try dsimp only at hSw); go_simp⟩) (by assumption) ?_
            try simp only [Act.put, List.setIfInBounds_toArray, List.set_cons_zero, List.set_cons_succ]
            refine wpAnyH_ready (rs := [1]) (by kernel_rfl) (by simp) ?_
            refine AllReadyH.cons (o := ⟨some 96, _, _, _, _, _⟩) rfl (fun K hK => ?_) AllReadyH.nil
            go_simp
            go_at_call 33
            (with_reducible refine (Masters_calls base1 f g n b s p _ LX T1 _ X0.out.drew.P N1.out).mono ?_); rintro e w5 ⟨v5, rfl, hR5, hb⟩; have hb' := below_step (below_drew1 (Below.refl _ _)) hb; have X1 := Aside0.mk (X0.out.below hb'); have A1 := Aside0.mk (blk_below A0.out hb'); have q1 := (act_cells' A1.out).2.1; (obtain ⟨A5, c5, rfl⟩ := R_slice' hR5); have R5 := Aside0.mk hR5; clear hR5 hb hb'
            dsimp only
            refine hK.out _ _ q1 (fun hS1 => ?_)
            clear hK K
            try simp only [Act.put, List.setIfInBounds_toArray, List.set_cons_zero, List.set_cons_succ]
            refine wpAnyH_ready (rs := [3]) (by kernel_rfl) (by simp) ?_
            refine AllReadyH.cons (o := ⟨some 98, _, _, _, _, _⟩) rfl (fun K hK => ?_) AllReadyH.nil
            go_simp
            go_at_call 34
            (with_reducible refine (RMasters_calls base2 fr gr n b s p _ LX T1 _ X1.out.R N1.out).mono ?_); rintro e w6 ⟨v6, rfl, hR6, hb⟩; have hR5' := Kd.R_below R5.out hb; have X2 := Aside0.mk (X1.out.below hb); have A2 := Aside0.mk (blk_below A1.out hb); have q2 := (act_cells' A2.out).2.1; (obtain ⟨A6, c6, rfl⟩ := R_slice' hR6); obtain ⟨hC5, hl5⟩ := R_C hR5'; obtain ⟨hC6, hl6⟩ := R_C hR6; have CC := Aside0.mk (And.intro (And.intro hC5 hl5) (And.intro hC6 hl6)); clear hR5' hR6 hb hC5 hl5 hC6 hl6
            dsimp only
            refine hK.out _ _ q2 (fun hS3 => ?_)
            clear hK K
            try simp only [Act.put, List.setIfInBounds_toArray, List.set_cons_zero, List.set_cons_succ]
            refine wpAnyH_ready (rs := [4]) (by kernel_rfl) (by simp) ?_
            refine AllReadyH.cons (o := ⟨some 99, _, _, _, _, _⟩) rfl (fun K hK => ?_) AllReadyH.nil
            go_simp
            go_at_call 32
            (with_reducible refine (bellbuoyref15_SameInts.calls _ _ _ _ _ _ _ true _ CC.out.1.1 CC.out.1.2 CC.out.2.1 CC.out.2.2 (same_self _ (toldL_len _ n) N1.out)).mono ?_); rintro e w7 ⟨rfl, hd⟩; have hb := Drawn0.below hd; have X3 := Aside0.mk (X2.out.below hb); have A3 := Aside0.mk (blk_below A2.out hb); have q3 := (act_cells' A3.out).2.1; clear hd hb
            dsimp only
            refine hK.out _ _ q3 (fun hS4 => ?_)
            clear hK K
            try simp only [Act.put, List.setIfInBounds_toArray, List.set_cons_zero, List.set_cons_succ]
            refine wpAnyH_take (i := 5) (oi := ⟨some 100, _, _, _, _, _⟩) (v := (.bool false)) rfl (by kernel_rfl) (by kernel_rfl) (by kernel_rfl) (fun _ _ _ h => h) (Or.inl ⟨by rfl, fun w hSw => by (try dsimp only at hSw); go_simp⟩) (by assumption) ?_
            try simp only [Act.put, List.setIfInBounds_toArray, List.set_cons_zero, List.set_cons_succ]
            refine wpAnyH_take (i := 6) (oi := ⟨some 101, _, _, _, _, _⟩) (v := (.bool false)) rfl (by kernel_rfl) (by kernel_rfl) (by kernel_rfl) (fun _ _ _ h => h) (Or.inl ⟨by rfl, fun w hSw => by (try dsimp only at hSw); go_simp⟩) (by assumption) ?_
            try simp only [Act.put, List.setIfInBounds_toArray, List.set_cons_zero, List.set_cons_succ]
            refine wpAnyH_take (i := 7) (oi := ⟨some 102, _, _, _, _, _⟩) (v := (.pointer (some ⟨f, 0, none⟩))) rfl (by kernel_rfl) (by kernel_rfl) (by kernel_rfl) (fun _ _ _ h => h) (Or.inl ⟨by rfl, fun w hSw => by (try dsimp only at hSw); go_simp⟩) (by assumption) ?_
            try simp only [Act.put, List.setIfInBounds_toArray, List.set_cons_zero, List.set_cons_succ]
            refine wpAnyH_take (i := 8) (oi := ⟨some 103, _, _, _, _, _⟩) (v := (.pointer (some ⟨ab, 1, none⟩))) rfl (by kernel_rfl) (by kernel_rfl) (by kernel_rfl) (fun _ _ _ h => h) (Or.inl ⟨by rfl, fun w hSw => by (try dsimp only at hSw); go_simp⟩) (by assumption) ?_
            try simp only [Act.put, List.setIfInBounds_toArray, List.set_cons_zero, List.set_cons_succ]
            refine wpAnyH_take (i := 9) (oi := ⟨some 104, _, _, _, _, _⟩) (v := (.int .i64 z1)) rfl (by kernel_rfl) (by kernel_rfl) (by kernel_rfl) (fun _ _ _ h => h) (Or.inl ⟨by rfl, fun w hSw => by (try dsimp only at hSw); go_simp⟩) (by assumption) ?_
            try simp only [Act.put, List.setIfInBounds_toArray, List.set_cons_zero, List.set_cons_succ]
            refine wpAnyH_take (i := 11) (oi := ⟨some 106, _, _, _, _, _⟩) (v := (.pointer (some ⟨ab, 1, none⟩))) rfl (by kernel_rfl) (by kernel_rfl) (by kernel_rfl) (fun _ _ _ h => h) (Or.inl ⟨by rfl, fun w hSw => by (try dsimp only at hSw); go_simp⟩) (by assumption) ?_
            try simp only [Act.put, List.setIfInBounds_toArray, List.set_cons_zero, List.set_cons_succ]
            refine wpAnyH_take (i := 12) (oi := ⟨some 107, _, _, _, _, _⟩) (v := (.int .i64 z1)) rfl (by kernel_rfl) (by kernel_rfl) (by kernel_rfl) (fun _ _ _ h => h) (Or.inl ⟨by rfl, fun w hSw => by (try dsimp only at hSw); go_simp⟩) (by assumption) ?_
            try simp only [Act.put, List.setIfInBounds_toArray, List.set_cons_zero, List.set_cons_succ]
            refine wpAnyH_take (i := 13) (oi := ⟨some 108, _, _, _, _, _⟩) (v := (.bool true)) rfl (by kernel_rfl) (by kernel_rfl) (by kernel_rfl) (fun _ _ _ h => h) (Or.inl ⟨by rfl, fun w hSw => by (try dsimp only at hSw); go_simp⟩) (by assumption) ?_
            try simp only [Act.put, List.setIfInBounds_toArray, List.set_cons_zero, List.set_cons_succ]
            refine wpAnyH_ready (rs := [10]) (by kernel_rfl) (by simp) ?_
            refine AllReadyH.cons (o := ⟨some 105, _, _, _, _, _⟩) rfl (fun K hK => ?_) AllReadyH.nil
            go_simp
            go_at_call 35
            (with_reducible refine (AliveL_calls base1 f g n b s p z1 _ LX T1 _ X3.out.P N1.out).mono ?_); rintro e w8 ⟨rfl, hd⟩; have hb := Drawn0.below hd; have X4 := Aside0.mk (X3.out.below hb); have A4 := Aside0.mk (blk_below A3.out hb); have q4 := (act_cells' A4.out).2.1; clear hd hb
            dsimp only
            refine hK.out _ _ q4 (fun hS10 => ?_)
            clear hK K
            try simp only [Act.put, List.setIfInBounds_toArray, List.set_cons_zero, List.set_cons_succ]
            rw [HA.out]
            refine wpAnyH_take (i := 14) (oi := ⟨some 109, _, _, _, _, _⟩) (v := (.bool true)) rfl (by kernel_rfl) (by kernel_rfl) (by kernel_rfl) (fun _ _ _ h => h) (Or.inl ⟨by rfl, fun w hSw => by (try dsimp only at hSw); go_simp⟩) (by assumption) ?_
            try simp only [Act.put, List.setIfInBounds_toArray, List.set_cons_zero, List.set_cons_succ]
            refine wpAnyH_take (i := 15) (oi := ⟨some 110, _, _, _, _, _⟩) (v := (.pointer (some ⟨ab, 1, none⟩))) rfl (by kernel_rfl) (by kernel_rfl) (by kernel_rfl) (fun _ _ _ h => h) (Or.inl ⟨by rfl, fun w hSw => by (try dsimp only at hSw); go_simp⟩) (by assumption) ?_
            try simp only [Act.put, List.setIfInBounds_toArray, List.set_cons_zero, List.set_cons_succ]
            refine wpAnyH_take (i := 16) (oi := ⟨some 111, _, _, _, _, _⟩) (v := (.int .i64 z1)) rfl (by kernel_rfl) (by kernel_rfl) (by kernel_rfl) (fun _ _ _ h => h) (Or.inl ⟨by rfl, fun w hSw => by (try dsimp only at hSw); go_simp⟩) (by assumption) ?_
            try simp only [Act.put, List.setIfInBounds_toArray, List.set_cons_zero, List.set_cons_succ]
            refine wpAnyH_take (i := 17) (oi := ⟨some 112, _, _, _, _, _⟩) (v := (.int .i64 (n : Int))) rfl (by kernel_rfl) (by kernel_rfl) (by kernel_rfl) (fun _ _ _ h => h) (Or.inl ⟨by rfl, fun w hSw => by (try dsimp only at hSw); go_simp⟩) (by assumption) ?_
            try simp only [Act.put, List.setIfInBounds_toArray, List.set_cons_zero, List.set_cons_succ]
            refine wpAnyH_take (i := 18) (oi := ⟨some 113, _, _, _, _, _⟩) (v := (.bool false)) rfl (by kernel_rfl) (by kernel_rfl) (by kernel_rfl) (fun _ _ _ h => h) (Or.inl ⟨by rfl, fun w hSw => by (try dsimp only at hSw); go_simp⟩) (by assumption) ?_
            try simp only [Act.put, List.setIfInBounds_toArray, List.set_cons_zero, List.set_cons_succ]
            refine wpAnyH_take (i := 19) (oi := ⟨some 114, _, _, _, _, _⟩) (v := (.bool false)) rfl (by kernel_rfl) (by kernel_rfl) (by kernel_rfl) (fun _ _ _ h => h) (Or.inl ⟨by rfl, fun w hSw => by (try dsimp only at hSw); go_simp⟩) (by assumption) ?_
            try simp only [Act.put, List.setIfInBounds_toArray, List.set_cons_zero, List.set_cons_succ]
            refine wpAnyH_take (i := 20) (oi := ⟨some 115, _, _, _, _, _⟩) (v := (.bool false)) rfl (by kernel_rfl) (by kernel_rfl) (by kernel_rfl) (fun _ _ _ h => h) (Or.inl ⟨by rfl, fun w hSw => by (try dsimp only at hSw); go_simp⟩) (by assumption) ?_
            try simp only [Act.put, List.setIfInBounds_toArray, List.set_cons_zero, List.set_cons_succ]
            refine wpAnyH_take (i := 21) (oi := ⟨some 116, _, _, _, _, _⟩) (v := undef) rfl (by kernel_rfl) (by kernel_rfl) (by kernel_rfl) (fun _ _ _ h => h) (Or.inr ⟨by rfl, rfl⟩) (by assumption) ?_
            try simp only [Act.put, List.setIfInBounds_toArray, List.set_cons_zero, List.set_cons_succ]
            refine wpAnyH_take (i := 22) (oi := ⟨some 117, _, _, _, _, _⟩) (v := undef) rfl (by kernel_rfl) (by kernel_rfl) (by kernel_rfl) (fun _ _ _ h => h) (Or.inr ⟨by rfl, rfl⟩) (by assumption) ?_
            try simp only [Act.put, List.setIfInBounds_toArray, List.set_cons_zero, List.set_cons_succ]
            refine wpAnyH_take (i := 23) (oi := ⟨some 118, _, _, _, _, _⟩) (v := undef) rfl (by kernel_rfl) (by kernel_rfl) (by kernel_rfl) (fun _ _ _ h => h) (Or.inr ⟨by rfl, rfl⟩) (by assumption) ?_
            try simp only [Act.put, List.setIfInBounds_toArray, List.set_cons_zero, List.set_cons_succ]
            refine wpAnyH_take (i := 24) (oi := ⟨some 119, _, _, _, _, _⟩) (v := undef) rfl (by kernel_rfl) (by kernel_rfl) (by kernel_rfl) (fun _ _ _ h => h) (Or.inr ⟨by rfl, rfl⟩) (by assumption) ?_
            try simp only [Act.put, List.setIfInBounds_toArray, List.set_cons_zero, List.set_cons_succ]
            refine wpAnyH_take (i := 25) (oi := ⟨some 120, _, _, _, _, _⟩) (v := undef) rfl (by kernel_rfl) (by kernel_rfl) (by kernel_rfl) (fun _ _ _ h => h) (Or.inr ⟨by rfl, rfl⟩) (by assumption) ?_
            try simp only [Act.put, List.setIfInBounds_toArray, List.set_cons_zero, List.set_cons_succ]
            refine wpAnyH_take (i := 26) (oi := ⟨some 121, _, _, _, _, _⟩) (v := undef) rfl (by kernel_rfl) (by kernel_rfl) (by kernel_rfl) (fun _ _ _ h => h) (Or.inr ⟨by rfl, rfl⟩) (by assumption) ?_
            try simp only [Act.put, List.setIfInBounds_toArray, List.set_cons_zero, List.set_cons_succ]
            refine wpAnyH_take (i := 27) (oi := ⟨some 122, _, _, _, _, _⟩) (v := undef) rfl (by kernel_rfl) (by kernel_rfl) (by kernel_rfl) (fun _ _ _ h => h) (Or.inr ⟨by rfl, rfl⟩) (by assumption) ?_
            try simp only [Act.put, List.setIfInBounds_toArray, List.set_cons_zero, List.set_cons_succ]
            refine wpAnyH_take (i := 28) (oi := ⟨some 123, _, _, _, _, _⟩) (v := undef) rfl (by kernel_rfl) (by kernel_rfl) (by kernel_rfl) (fun _ _ _ h => h) (Or.inr ⟨by rfl, rfl⟩) (by assumption) ?_
            try simp only [Act.put, List.setIfInBounds_toArray, List.set_cons_zero, List.set_cons_succ]
            refine wpAnyH_take (i := 29) (oi := ⟨some 124, _, _, _, _, _⟩) (v := undef) rfl (by kernel_rfl) (by kernel_rfl) (by kernel_rfl) (fun _ _ _ h => h) (Or.inr ⟨by rfl, rfl⟩) (by assumption) ?_
            try simp only [Act.put, List.setIfInBounds_toArray, List.set_cons_zero, List.set_cons_succ]
            refine wpAnyH_take (i := 30) (oi := ⟨some 125, _, _, _, _, _⟩) (v := (.bool false)) rfl (by kernel_rfl) (by kernel_rfl) (by kernel_rfl) (fun _ _ _ h => h) (Or.inl ⟨by rfl, fun w hSw => by (try dsimp only at hSw); go_simp⟩) (by assumption) ?_
            try simp only [Act.put, List.setIfInBounds_toArray, List.set_cons_zero, List.set_cons_succ]
            refine wpAnyH_take (i := 31) (oi := ⟨some 126, _, _, _, _, _⟩) (v := (.bool false)) rfl (by kernel_rfl) (by kernel_rfl) (by kernel_rfl) (fun _ _ _ h => h) (Or.inl ⟨by rfl, fun w hSw => by (try dsimp only at hSw); go_simp⟩) (by assumption) ?_
            try simp only [Act.put, List.setIfInBounds_toArray, List.set_cons_zero, List.set_cons_succ]
            refine wpAnyH_take (i := 32) (oi := ⟨some 127, _, _, _, _, _⟩) (v := (.bool false)) rfl (by kernel_rfl) (by kernel_rfl) (by kernel_rfl) (fun _ _ _ h => h) (Or.inl ⟨by rfl, fun w hSw => by (try dsimp only at hSw); go_simp⟩) (by assumption) ?_
            try simp only [Act.put, List.setIfInBounds_toArray, List.set_cons_zero, List.set_cons_succ]
            refine wpAnyH_done (by kernel_rfl) ?_ _
            go_wp2
            go_roundg k1
            case measure => omega
            case rel => exact ⟨i + 1, _, _, _, _, by first | rw [hi1] | rfl, HI', X4⟩
      · have g0 : (z0 == 0) = false := beq_eq_false_iff_ne.mpr k0
        by_cases k1' : z0 = 1
        · subst k1'
          clear k0 g0
          go_upto_region 21 with (fail)
          clear a0 a1 a2
          generalize wr.alloc (.cells #[.int .i64 1, .int .i64 z1, .int .i64 z2] 58) = wq at X2 A2 ⊢
          generalize wr.heap.size = ab at A2 ⊢
          obtain ⟨q20, q21, q22⟩ := act_cells' A2.out
          go_region_held3 (fun w' => w'.cell? ⟨ab, 1, none⟩ = some (.int .i64 z1)) (go_keep)
            (first
              | (go_at_call 27; (with_reducible refine (RestartL_calls base1 f g n b s p z1 _ _ _ _ X2.out.drew.P X2.out.drew.b1 N1.out HR.out).mono ?_); rintro e w5 ⟨HP2, rfl, hf, hc⟩; have X3 := Aside0.mk (X2.out.drew.pp hf (X2.out.okP.turn (fun j _ => WJ_nn b s p j) (right_of HR.out).1 z1 true) hc); have A3 := Aside0.mk (Fld.other X2.out.drew.P hc (blk_drew A2.out) (by decide) (by decide) (by decide)); have q3 := (act_cells' A3.out).2.1; clear hf hc)
              | (go_at_call 28; (with_reducible refine (RRestart_calls base2 fr gr n b s p z1 _ _ _ _ X3.out.R X3.out.b2 N1.out HR.out).mono ?_); rintro e w6 ⟨HRN, rfl, hf, hc⟩; have X4 := Aside0.mk (X3.out.rr hf (X3.out.okR.turn (fun j _ => WJ_nn b s p j) (right_of HR.out).1 z1 true) hc); have A4 := Aside0.mk (RFld.other X3.out.R hc A3.out (by decide) (by decide) (by decide)); have q4 := (act_cells' A4.out).2.1; clear hf hc))
          clear X2 X3 A2 A3
          try clear q3
          try clear q2
          try clear a0 a1 a2
          generalize turnL n L1 z1 true = LX at X4
          have ne : (turnEL n L1 z1 true != turnEL n L1 z1 true) = false := by simp
          clear q4
          have XX := X4
          have AA := A4
          clear X4 A4
          have X0 := XX
          have A0 := AA
          have q0 := (act_cells' A0.out).2.1
          clear XX
          by_cases k0 : z1 < 0
          · have HA : Aside0 (aliveL n LX z1 = false) := ⟨by unfold aliveL; rw [decide_eq_false (by omega), Bool.false_and]⟩
            have y1 : decide (z1 ≥ 0) = false := decide_eq_false (by omega)
            have y2 : decide (0 ≤ z1) = false := decide_eq_false (by omega)
            clear k0
            go_wp2_with fail
            refine wp_region_held_drew (S := (fun w' : World => w'.cell? ⟨ab, 1, none⟩ = some (.int .i64 z1))) (by kernel_rfl) q0 (fun hS0 => ?_)
            refine wpAnyH_take (i := 0) (oi := ⟨some 95, _, _, _, _, _⟩) (v := (.pointer (some ⟨f, 0, none⟩))) rfl (by kernel_rfl) (by kernel_rfl) (by kernel_rfl) (fun _ _ _ h => h) (Or.inl ⟨by rfl, fun w hSw => by (try dsimp only at hSw); go_simp⟩) (by assumption) ?_
            try simp only [Act.put, List.setIfInBounds_toArray, List.set_cons_zero, List.set_cons_succ]
            refine wpAnyH_take (i := 2) (oi := ⟨some 97, _, _, _, _, _⟩) (v := (.pointer (some ⟨fr, 0, none⟩))) rfl (by kernel_rfl) (by kernel_rfl) (by kernel_rfl) (fun _ _ _ h => h) (Or.inl ⟨by rfl, fun w hSw => by (try dsimp only at hSw); go_simp⟩) (by assumption) ?_
            try simp only [Act.put, List.setIfInBounds_toArray, List.set_cons_zero, List.set_cons_succ]
            refine wpAnyH_ready (rs := [1]) (by kernel_rfl) (by simp) ?_
            refine AllReadyH.cons (o := ⟨some 96, _, _, _, _, _⟩) rfl (fun K hK => ?_) AllReadyH.nil
            go_simp
            go_at_call 33
            (with_reducible refine (Masters_calls base1 f g n b s p _ LX T1 _ X0.out.drew.P N1.out).mono ?_); rintro e w5 ⟨v5, rfl, hR5, hb⟩; have hb' := below_step (below_drew1 (Below.refl _ _)) hb; have X1 := Aside0.mk (X0.out.below hb'); have A1 := Aside0.mk (blk_below A0.out hb'); have q1 := (act_cells' A1.out).2.1; (obtain ⟨A5, c5, rfl⟩ := R_slice' hR5); have R5 := Aside0.mk hR5; clear hR5 hb hb'
            dsimp only
            refine hK.out _ _ q1 (fun hS1 => ?_)
            clear hK K
            try simp only [Act.put, List.setIfInBounds_toArray, List.set_cons_zero, List.set_cons_succ]
            refine wpAnyH_ready (rs := [3]) (by kernel_rfl) (by simp) ?_
            refine AllReadyH.cons (o := ⟨some 98, _, _, _, _, _⟩) rfl (fun K hK => ?_) AllReadyH.nil
            go_simp
            go_at_call 34
            (with_reducible refine (RMasters_calls base2 fr gr n b s p _ LX T1 _ X1.out.R N1.out).mono ?_); rintro e w6 ⟨v6, rfl, hR6, hb⟩; have hR5' := Kd.R_below R5.out hb; have X2 := Aside0.mk (X1.out.below hb); have A2 := Aside0.mk (blk_below A1.out hb); have q2 := (act_cells' A2.out).2.1; (obtain ⟨A6, c6, rfl⟩ := R_slice' hR6); obtain ⟨hC5, hl5⟩ := R_C hR5'; obtain ⟨hC6, hl6⟩ := R_C hR6; have CC := Aside0.mk (And.intro (And.intro hC5 hl5) (And.intro hC6 hl6)); clear hR5' hR6 hb hC5 hl5 hC6 hl6
            dsimp only
            refine hK.out _ _ q2 (fun hS3 => ?_)
            clear hK K
            try simp only [Act.put, List.setIfInBounds_toArray, List.set_cons_zero, List.set_cons_succ]
            refine wpAnyH_ready (rs := [4]) (by kernel_rfl) (by simp) ?_
            refine AllReadyH.cons (o := ⟨some 99, _, _, _, _, _⟩) rfl (fun K hK => ?_) AllReadyH.nil
            go_simp
            go_at_call 32
            (with_reducible refine (bellbuoyref15_SameInts.calls _ _ _ _ _ _ _ true _ CC.out.1.1 CC.out.1.2 CC.out.2.1 CC.out.2.2 (same_self _ (toldL_len _ n) N1.out)).mono ?_); rintro e w7 ⟨rfl, hd⟩; have hb := Drawn0.below hd; have X3 := Aside0.mk (X2.out.below hb); have A3 := Aside0.mk (blk_below A2.out hb); have q3 := (act_cells' A3.out).2.1; clear hd hb
            dsimp only
            refine hK.out _ _ q3 (fun hS4 => ?_)
            clear hK K
            try simp only [Act.put, List.setIfInBounds_toArray, List.set_cons_zero, List.set_cons_succ]
            refine wpAnyH_take (i := 5) (oi := ⟨some 100, _, _, _, _, _⟩) (v := (.bool false)) rfl (by kernel_rfl) (by kernel_rfl) (by kernel_rfl) (fun _ _ _ h => h) (Or.inl ⟨by rfl, fun w hSw => by (try dsimp only at hSw); go_simp⟩) (by assumption) ?_
            try simp only [Act.put, List.setIfInBounds_toArray, List.set_cons_zero, List.set_cons_succ]
            refine wpAnyH_take (i := 6) (oi := ⟨some 101, _, _, _, _, _⟩) (v := (.bool false)) rfl (by kernel_rfl) (by kernel_rfl) (by kernel_rfl) (fun _ _ _ h => h) (Or.inl ⟨by rfl, fun w hSw => by (try dsimp only at hSw); go_simp⟩) (by assumption) ?_
            try simp only [Act.put, List.setIfInBounds_toArray, List.set_cons_zero, List.set_cons_succ]
            refine wpAnyH_take (i := 7) (oi := ⟨some 102, _, _, _, _, _⟩) (v := (.pointer (some ⟨f, 0, none⟩))) rfl (by kernel_rfl) (by kernel_rfl) (by kernel_rfl) (fun _ _ _ h => h) (Or.inl ⟨by rfl, fun w hSw => by (try dsimp only at hSw); go_simp⟩) (by assumption) ?_
            try simp only [Act.put, List.setIfInBounds_toArray, List.set_cons_zero, List.set_cons_succ]
            refine wpAnyH_take (i := 8) (oi := ⟨some 103, _, _, _, _, _⟩) (v := (.pointer (some ⟨ab, 1, none⟩))) rfl (by kernel_rfl) (by kernel_rfl) (by kernel_rfl) (fun _ _ _ h => h) (Or.inl ⟨by rfl, fun w hSw => by (try dsimp only at hSw); go_simp⟩) (by assumption) ?_
            try simp only [Act.put, List.setIfInBounds_toArray, List.set_cons_zero, List.set_cons_succ]
            refine wpAnyH_take (i := 9) (oi := ⟨some 104, _, _, _, _, _⟩) (v := (.int .i64 z1)) rfl (by kernel_rfl) (by kernel_rfl) (by kernel_rfl) (fun _ _ _ h => h) (Or.inl ⟨by rfl, fun w hSw => by (try dsimp only at hSw); go_simp⟩) (by assumption) ?_
            try simp only [Act.put, List.setIfInBounds_toArray, List.set_cons_zero, List.set_cons_succ]
            refine wpAnyH_take (i := 11) (oi := ⟨some 106, _, _, _, _, _⟩) (v := (.pointer (some ⟨ab, 1, none⟩))) rfl (by kernel_rfl) (by kernel_rfl) (by kernel_rfl) (fun _ _ _ h => h) (Or.inl ⟨by rfl, fun w hSw => by (try dsimp only at hSw); go_simp⟩) (by assumption) ?_
            try simp only [Act.put, List.setIfInBounds_toArray, List.set_cons_zero, List.set_cons_succ]
            refine wpAnyH_take (i := 12) (oi := ⟨some 107, _, _, _, _, _⟩) (v := (.int .i64 z1)) rfl (by kernel_rfl) (by kernel_rfl) (by kernel_rfl) (fun _ _ _ h => h) (Or.inl ⟨by rfl, fun w hSw => by (try dsimp only at hSw); go_simp⟩) (by assumption) ?_
            try simp only [Act.put, List.setIfInBounds_toArray, List.set_cons_zero, List.set_cons_succ]
            refine wpAnyH_take (i := 13) (oi := ⟨some 108, _, _, _, _, _⟩) (v := (.bool false)) rfl (by kernel_rfl) (by kernel_rfl) (by kernel_rfl) (fun _ _ _ h => h) (Or.inl ⟨by rfl, fun w hSw => by (try dsimp only at hSw); go_simp⟩) (by assumption) ?_
            try simp only [Act.put, List.setIfInBounds_toArray, List.set_cons_zero, List.set_cons_succ]
            refine wpAnyH_ready (rs := [10]) (by kernel_rfl) (by simp) ?_
            refine AllReadyH.cons (o := ⟨some 105, _, _, _, _, _⟩) rfl (fun K hK => ?_) AllReadyH.nil
            go_simp
            go_at_call 35
            (with_reducible refine (AliveL_calls base1 f g n b s p z1 _ LX T1 _ X3.out.P N1.out).mono ?_); rintro e w8 ⟨rfl, hd⟩; have hb := Drawn0.below hd; have X4 := Aside0.mk (X3.out.below hb); have A4 := Aside0.mk (blk_below A3.out hb); have q4 := (act_cells' A4.out).2.1; clear hd hb
            dsimp only
            refine hK.out _ _ q4 (fun hS10 => ?_)
            clear hK K
            try simp only [Act.put, List.setIfInBounds_toArray, List.set_cons_zero, List.set_cons_succ]
            rw [HA.out]
            refine wpAnyH_take (i := 14) (oi := ⟨some 109, _, _, _, _, _⟩) (v := (.bool false)) rfl (by kernel_rfl) (by kernel_rfl) (by kernel_rfl) (fun _ _ _ h => h) (Or.inl ⟨by rfl, fun w hSw => by (try dsimp only at hSw); go_simp⟩) (by assumption) ?_
            try simp only [Act.put, List.setIfInBounds_toArray, List.set_cons_zero, List.set_cons_succ]
            refine wpAnyH_take (i := 15) (oi := ⟨some 110, _, _, _, _, _⟩) (v := undef) rfl (by kernel_rfl) (by kernel_rfl) (by kernel_rfl) (fun _ _ _ h => h) (Or.inr ⟨by rfl, rfl⟩) (by assumption) ?_
            try simp only [Act.put, List.setIfInBounds_toArray, List.set_cons_zero, List.set_cons_succ]
            refine wpAnyH_take (i := 16) (oi := ⟨some 111, _, _, _, _, _⟩) (v := undef) rfl (by kernel_rfl) (by kernel_rfl) (by kernel_rfl) (fun _ _ _ h => h) (Or.inr ⟨by rfl, rfl⟩) (by assumption) ?_
            try simp only [Act.put, List.setIfInBounds_toArray, List.set_cons_zero, List.set_cons_succ]
            refine wpAnyH_take (i := 17) (oi := ⟨some 112, _, _, _, _, _⟩) (v := undef) rfl (by kernel_rfl) (by kernel_rfl) (by kernel_rfl) (fun _ _ _ h => h) (Or.inr ⟨by rfl, rfl⟩) (by assumption) ?_
            try simp only [Act.put, List.setIfInBounds_toArray, List.set_cons_zero, List.set_cons_succ]
            refine wpAnyH_take (i := 18) (oi := ⟨some 113, _, _, _, _, _⟩) (v := undef) rfl (by kernel_rfl) (by kernel_rfl) (by kernel_rfl) (fun _ _ _ h => h) (Or.inr ⟨by rfl, rfl⟩) (by assumption) ?_
            try simp only [Act.put, List.setIfInBounds_toArray, List.set_cons_zero, List.set_cons_succ]
            refine wpAnyH_take (i := 19) (oi := ⟨some 114, _, _, _, _, _⟩) (v := (.bool false)) rfl (by kernel_rfl) (by kernel_rfl) (by kernel_rfl) (fun _ _ _ h => h) (Or.inl ⟨by rfl, fun w hSw => by (try dsimp only at hSw); go_simp⟩) (by assumption) ?_
            try simp only [Act.put, List.setIfInBounds_toArray, List.set_cons_zero, List.set_cons_succ]
            refine wpAnyH_take (i := 20) (oi := ⟨some 115, _, _, _, _, _⟩) (v := (.bool false)) rfl (by kernel_rfl) (by kernel_rfl) (by kernel_rfl) (fun _ _ _ h => h) (Or.inl ⟨by rfl, fun w hSw => by (try dsimp only at hSw); go_simp⟩) (by assumption) ?_
            try simp only [Act.put, List.setIfInBounds_toArray, List.set_cons_zero, List.set_cons_succ]
            refine wpAnyH_take (i := 21) (oi := ⟨some 116, _, _, _, _, _⟩) (v := undef) rfl (by kernel_rfl) (by kernel_rfl) (by kernel_rfl) (fun _ _ _ h => h) (Or.inr ⟨by rfl, rfl⟩) (by assumption) ?_
            try simp only [Act.put, List.setIfInBounds_toArray, List.set_cons_zero, List.set_cons_succ]
            refine wpAnyH_take (i := 22) (oi := ⟨some 117, _, _, _, _, _⟩) (v := undef) rfl (by kernel_rfl) (by kernel_rfl) (by kernel_rfl) (fun _ _ _ h => h) (Or.inr ⟨by rfl, rfl⟩) (by assumption) ?_
            try simp only [Act.put, List.setIfInBounds_toArray, List.set_cons_zero, List.set_cons_succ]
            refine wpAnyH_take (i := 23) (oi := ⟨some 118, _, _, _, _, _⟩) (v := undef) rfl (by kernel_rfl) (by kernel_rfl) (by kernel_rfl) (fun _ _ _ h => h) (Or.inr ⟨by rfl, rfl⟩) (by assumption) ?_
            try simp only [Act.put, List.setIfInBounds_toArray, List.set_cons_zero, List.set_cons_succ]
            refine wpAnyH_take (i := 24) (oi := ⟨some 119, _, _, _, _, _⟩) (v := undef) rfl (by kernel_rfl) (by kernel_rfl) (by kernel_rfl) (fun _ _ _ h => h) (Or.inr ⟨by rfl, rfl⟩) (by assumption) ?_
            try simp only [Act.put, List.setIfInBounds_toArray, List.set_cons_zero, List.set_cons_succ]
            refine wpAnyH_take (i := 25) (oi := ⟨some 120, _, _, _, _, _⟩) (v := undef) rfl (by kernel_rfl) (by kernel_rfl) (by kernel_rfl) (fun _ _ _ h => h) (Or.inr ⟨by rfl, rfl⟩) (by assumption) ?_
            try simp only [Act.put, List.setIfInBounds_toArray, List.set_cons_zero, List.set_cons_succ]
            refine wpAnyH_take (i := 26) (oi := ⟨some 121, _, _, _, _, _⟩) (v := undef) rfl (by kernel_rfl) (by kernel_rfl) (by kernel_rfl) (fun _ _ _ h => h) (Or.inr ⟨by rfl, rfl⟩) (by assumption) ?_
            try simp only [Act.put, List.setIfInBounds_toArray, List.set_cons_zero, List.set_cons_succ]
            refine wpAnyH_take (i := 27) (oi := ⟨some 122, _, _, _, _, _⟩) (v := undef) rfl (by kernel_rfl) (by kernel_rfl) (by kernel_rfl) (fun _ _ _ h => h) (Or.inr ⟨by rfl, rfl⟩) (by assumption) ?_
            try simp only [Act.put, List.setIfInBounds_toArray, List.set_cons_zero, List.set_cons_succ]
            refine wpAnyH_take (i := 28) (oi := ⟨some 123, _, _, _, _, _⟩) (v := undef) rfl (by kernel_rfl) (by kernel_rfl) (by kernel_rfl) (fun _ _ _ h => h) (Or.inr ⟨by rfl, rfl⟩) (by assumption) ?_
            try simp only [Act.put, List.setIfInBounds_toArray, List.set_cons_zero, List.set_cons_succ]
            refine wpAnyH_take (i := 29) (oi := ⟨some 124, _, _, _, _, _⟩) (v := undef) rfl (by kernel_rfl) (by kernel_rfl) (by kernel_rfl) (fun _ _ _ h => h) (Or.inr ⟨by rfl, rfl⟩) (by assumption) ?_
            try simp only [Act.put, List.setIfInBounds_toArray, List.set_cons_zero, List.set_cons_succ]
            refine wpAnyH_take (i := 30) (oi := ⟨some 125, _, _, _, _, _⟩) (v := (.bool false)) rfl (by kernel_rfl) (by kernel_rfl) (by kernel_rfl) (fun _ _ _ h => h) (Or.inl ⟨by rfl, fun w hSw => by (try dsimp only at hSw); go_simp⟩) (by assumption) ?_
            try simp only [Act.put, List.setIfInBounds_toArray, List.set_cons_zero, List.set_cons_succ]
            refine wpAnyH_take (i := 31) (oi := ⟨some 126, _, _, _, _, _⟩) (v := (.bool false)) rfl (by kernel_rfl) (by kernel_rfl) (by kernel_rfl) (fun _ _ _ h => h) (Or.inl ⟨by rfl, fun w hSw => by (try dsimp only at hSw); go_simp⟩) (by assumption) ?_
            try simp only [Act.put, List.setIfInBounds_toArray, List.set_cons_zero, List.set_cons_succ]
            refine wpAnyH_take (i := 32) (oi := ⟨some 127, _, _, _, _, _⟩) (v := (.bool false)) rfl (by kernel_rfl) (by kernel_rfl) (by kernel_rfl) (fun _ _ _ h => h) (Or.inl ⟨by rfl, fun w hSw => by (try dsimp only at hSw); go_simp⟩) (by assumption) ?_
            try simp only [Act.put, List.setIfInBounds_toArray, List.set_cons_zero, List.set_cons_succ]
            refine wpAnyH_done (by kernel_rfl) ?_ _
            go_wp2
            go_roundg k1
            case measure => omega
            case rel => exact ⟨i + 1, _, _, _, _, by first | rw [hi1] | rfl, HI', X4⟩
          · by_cases kn : z1 < (n : Int)
            · have y1 : decide (z1 ≥ 0) = true := decide_eq_true (by omega)
              have y2 : decide (0 ≤ z1) = true := decide_eq_true (by omega)
              have y3 : decide (z1 < (n : Int)) = true := decide_eq_true kn
              have y4 : (0 ≤ z1) = True := eq_true (by omega)
              have y5 : (z1 < (n : Int)) = True := eq_true kn
              obtain ⟨vr, cp, i1, i2⟩ := X0.out.R.fv
              obtain ⟨gcr, i3, i4⟩ := X0.out.R.gv
              have s0 := (blk_cell i1 3).trans (show _ = some (Value.slice (some ⟨gr, 0, none⟩) n cp) from rfl)
              have t0 := (blk_cell i3 z1.toNat).trans (i4 z1.toNat (by omega))
              have hsm := (X0.out.R.nd.at_ z1.toNat (by omega)).some
              have ea : aliveL n LX z1 = (LX z1.toNat).isSome := by unfold aliveL; rw [decide_eq_true (show 0 ≤ z1 ∧ z1 < ((n : Nat) : Int) by omega), Bool.true_and]
              clear i1 i2 i3 i4 kn k0
              cases hq : (HRN z1.toNat) with
              | none =>
                rw [hq] at t0 hsm
                have HA : Aside0 (aliveL n LX z1 = false) := ⟨by rw [ea, ← hsm]; rfl⟩
                clear hq hsm ea
                change _ = some (Value.pointer none) at t0
                go_wp2_with fail
                refine wp_region_held_drew (S := (fun w' : World => w'.cell? ⟨ab, 1, none⟩ = some (.int .i64 z1) ∧ w'.cell? ⟨fr, 3, none⟩ = some (.slice (some ⟨gr, 0, none⟩) n cp) ∧ w'.cell? ⟨gr, z1.toNat, none⟩ = some (.pointer none))) (by kernel_rfl) (And.intro q0 (And.intro s0 t0)) (fun hS0 => ?_)
                refine wpAnyH_take (i := 0) (oi := ⟨some 95, _, _, _, _, _⟩) (v := (.pointer (some ⟨f, 0, none⟩))) rfl (by kernel_rfl) (by kernel_rfl) (by kernel_rfl) (fun _ _ _ h => h) (Or.inl ⟨by rfl, fun w hSw => by (try dsimp only at hSw); go_simp⟩) (by assumption) ?_
                try simp only [Act.put, List.setIfInBounds_toArray, List.set_cons_zero, List.set_cons_succ]
                refine wpAnyH_take (i := 2) (oi := ⟨some 97, _, _, _, _, _⟩) (v := (.pointer (some ⟨fr, 0, none⟩))) rfl (by kernel_rfl) (by kernel_rfl) (by kernel_rfl) (fun _ _ _ h => h) (Or.inl ⟨by rfl, fun w hSw => by (try dsimp only at hSw); go_simp⟩) (by assumption) ?_
                try simp only [Act.put, List.setIfInBounds_toArray, List.set_cons_zero, List.set_cons_succ]
                refine wpAnyH_ready (rs := [1]) (by kernel_rfl) (by simp) ?_
                refine AllReadyH.cons (o := ⟨some 96, _, _, _, _, _⟩) rfl (fun K hK => ?_) AllReadyH.nil
                go_simp
                go_at_call 33
                (with_reducible refine (Masters_calls base1 f g n b s p _ LX T1 _ X0.out.drew.P N1.out).mono ?_); rintro e w5 ⟨v5, rfl, hR5, hb⟩; have hb' := below_step (below_drew1 (Below.refl _ _)) hb; have X1 := Aside0.mk (X0.out.below hb'); have A1 := Aside0.mk (blk_below A0.out hb'); have q1 := (act_cells' A1.out).2.1; have s1 := pw_cell_below hb' s0; have t1 := pw_cell_below hb' t0; (obtain ⟨A5, c5, rfl⟩ := R_slice' hR5); have R5 := Aside0.mk hR5; clear hR5 hb hb'
                dsimp only
                refine hK.out _ _ (And.intro q1 (And.intro s1 t1)) (fun hS1 => ?_)
                clear hK K
                try simp only [Act.put, List.setIfInBounds_toArray, List.set_cons_zero, List.set_cons_succ]
                refine wpAnyH_ready (rs := [3]) (by kernel_rfl) (by simp) ?_
                refine AllReadyH.cons (o := ⟨some 98, _, _, _, _, _⟩) rfl (fun K hK => ?_) AllReadyH.nil
                go_simp
                go_at_call 34
                (with_reducible refine (RMasters_calls base2 fr gr n b s p _ LX T1 _ X1.out.R N1.out).mono ?_); rintro e w6 ⟨v6, rfl, hR6, hb⟩; have hR5' := Kd.R_below R5.out hb; have X2 := Aside0.mk (X1.out.below hb); have A2 := Aside0.mk (blk_below A1.out hb); have q2 := (act_cells' A2.out).2.1; have s2 := pw_cell_below hb s1; have t2 := pw_cell_below hb t1; (obtain ⟨A6, c6, rfl⟩ := R_slice' hR6); obtain ⟨hC5, hl5⟩ := R_C hR5'; obtain ⟨hC6, hl6⟩ := R_C hR6; have CC := Aside0.mk (And.intro (And.intro hC5 hl5) (And.intro hC6 hl6)); clear hR5' hR6 hb hC5 hl5 hC6 hl6
                dsimp only
                refine hK.out _ _ (And.intro q2 (And.intro s2 t2)) (fun hS3 => ?_)
                clear hK K
                try simp only [Act.put, List.setIfInBounds_toArray, List.set_cons_zero, List.set_cons_succ]
                refine wpAnyH_ready (rs := [4]) (by kernel_rfl) (by simp) ?_
                refine AllReadyH.cons (o := ⟨some 99, _, _, _, _, _⟩) rfl (fun K hK => ?_) AllReadyH.nil
                go_simp
                go_at_call 32
                (with_reducible refine (bellbuoyref15_SameInts.calls _ _ _ _ _ _ _ true _ CC.out.1.1 CC.out.1.2 CC.out.2.1 CC.out.2.2 (same_self _ (toldL_len _ n) N1.out)).mono ?_); rintro e w7 ⟨rfl, hd⟩; have hb := Drawn0.below hd; have X3 := Aside0.mk (X2.out.below hb); have A3 := Aside0.mk (blk_below A2.out hb); have q3 := (act_cells' A3.out).2.1; have s3 := pw_cell_below hb s2; have t3 := pw_cell_below hb t2; clear hd hb
                dsimp only
                refine hK.out _ _ (And.intro q3 (And.intro s3 t3)) (fun hS4 => ?_)
                clear hK K
                try simp only [Act.put, List.setIfInBounds_toArray, List.set_cons_zero, List.set_cons_succ]
                refine wpAnyH_take (i := 5) (oi := ⟨some 100, _, _, _, _, _⟩) (v := (.bool false)) rfl (by kernel_rfl) (by kernel_rfl) (by kernel_rfl) (fun _ _ _ h => h) (Or.inl ⟨by rfl, fun w hSw => by (try dsimp only at hSw); go_simp⟩) (by assumption) ?_
                try simp only [Act.put, List.setIfInBounds_toArray, List.set_cons_zero, List.set_cons_succ]
                refine wpAnyH_take (i := 6) (oi := ⟨some 101, _, _, _, _, _⟩) (v := (.bool false)) rfl (by kernel_rfl) (by kernel_rfl) (by kernel_rfl) (fun _ _ _ h => h) (Or.inl ⟨by rfl, fun w hSw => by (try dsimp only at hSw); go_simp⟩) (by assumption) ?_
                try simp only [Act.put, List.setIfInBounds_toArray, List.set_cons_zero, List.set_cons_succ]
                refine wpAnyH_take (i := 7) (oi := ⟨some 102, _, _, _, _, _⟩) (v := (.pointer (some ⟨f, 0, none⟩))) rfl (by kernel_rfl) (by kernel_rfl) (by kernel_rfl) (fun _ _ _ h => h) (Or.inl ⟨by rfl, fun w hSw => by (try dsimp only at hSw); go_simp⟩) (by assumption) ?_
                try simp only [Act.put, List.setIfInBounds_toArray, List.set_cons_zero, List.set_cons_succ]
                refine wpAnyH_take (i := 8) (oi := ⟨some 103, _, _, _, _, _⟩) (v := (.pointer (some ⟨ab, 1, none⟩))) rfl (by kernel_rfl) (by kernel_rfl) (by kernel_rfl) (fun _ _ _ h => h) (Or.inl ⟨by rfl, fun w hSw => by (try dsimp only at hSw); go_simp⟩) (by assumption) ?_
                try simp only [Act.put, List.setIfInBounds_toArray, List.set_cons_zero, List.set_cons_succ]
                refine wpAnyH_take (i := 9) (oi := ⟨some 104, _, _, _, _, _⟩) (v := (.int .i64 z1)) rfl (by kernel_rfl) (by kernel_rfl) (by kernel_rfl) (fun _ _ _ h => h) (Or.inl ⟨by rfl, fun w hSw => by (try dsimp only at hSw); go_simp⟩) (by assumption) ?_
                try simp only [Act.put, List.setIfInBounds_toArray, List.set_cons_zero, List.set_cons_succ]
                refine wpAnyH_take (i := 11) (oi := ⟨some 106, _, _, _, _, _⟩) (v := (.pointer (some ⟨ab, 1, none⟩))) rfl (by kernel_rfl) (by kernel_rfl) (by kernel_rfl) (fun _ _ _ h => h) (Or.inl ⟨by rfl, fun w hSw => by (try dsimp only at hSw); go_simp⟩) (by assumption) ?_
                try simp only [Act.put, List.setIfInBounds_toArray, List.set_cons_zero, List.set_cons_succ]
                refine wpAnyH_take (i := 12) (oi := ⟨some 107, _, _, _, _, _⟩) (v := (.int .i64 z1)) rfl (by kernel_rfl) (by kernel_rfl) (by kernel_rfl) (fun _ _ _ h => h) (Or.inl ⟨by rfl, fun w hSw => by (try dsimp only at hSw); go_simp⟩) (by assumption) ?_
                try simp only [Act.put, List.setIfInBounds_toArray, List.set_cons_zero, List.set_cons_succ]
                refine wpAnyH_take (i := 13) (oi := ⟨some 108, _, _, _, _, _⟩) (v := (.bool true)) rfl (by kernel_rfl) (by kernel_rfl) (by kernel_rfl) (fun _ _ _ h => h) (Or.inl ⟨by rfl, fun w hSw => by (try dsimp only at hSw); go_simp⟩) (by assumption) ?_
                try simp only [Act.put, List.setIfInBounds_toArray, List.set_cons_zero, List.set_cons_succ]
                refine wpAnyH_ready (rs := [10]) (by kernel_rfl) (by simp) ?_
                refine AllReadyH.cons (o := ⟨some 105, _, _, _, _, _⟩) rfl (fun K hK => ?_) AllReadyH.nil
                go_simp
                go_at_call 35
                (with_reducible refine (AliveL_calls base1 f g n b s p z1 _ LX T1 _ X3.out.P N1.out).mono ?_); rintro e w8 ⟨rfl, hd⟩; have hb := Drawn0.below hd; have X4 := Aside0.mk (X3.out.below hb); have A4 := Aside0.mk (blk_below A3.out hb); have q4 := (act_cells' A4.out).2.1; have s4 := pw_cell_below hb s3; have t4 := pw_cell_below hb t3; clear hd hb
                dsimp only
                refine hK.out _ _ (And.intro q4 (And.intro s4 t4)) (fun hS10 => ?_)
                clear hK K
                try simp only [Act.put, List.setIfInBounds_toArray, List.set_cons_zero, List.set_cons_succ]
                rw [HA.out]
                refine wpAnyH_take (i := 14) (oi := ⟨some 109, _, _, _, _, _⟩) (v := (.bool true)) rfl (by kernel_rfl) (by kernel_rfl) (by kernel_rfl) (fun _ _ _ h => h) (Or.inl ⟨by rfl, fun w hSw => by (try dsimp only at hSw); go_simp⟩) (by assumption) ?_
                try simp only [Act.put, List.setIfInBounds_toArray, List.set_cons_zero, List.set_cons_succ]
                refine wpAnyH_take (i := 15) (oi := ⟨some 110, _, _, _, _, _⟩) (v := (.pointer (some ⟨ab, 1, none⟩))) rfl (by kernel_rfl) (by kernel_rfl) (by kernel_rfl) (fun _ _ _ h => h) (Or.inl ⟨by rfl, fun w hSw => by (try dsimp only at hSw); go_simp⟩) (by assumption) ?_
                try simp only [Act.put, List.setIfInBounds_toArray, List.set_cons_zero, List.set_cons_succ]
                refine wpAnyH_take (i := 16) (oi := ⟨some 111, _, _, _, _, _⟩) (v := (.int .i64 z1)) rfl (by kernel_rfl) (by kernel_rfl) (by kernel_rfl) (fun _ _ _ h => h) (Or.inl ⟨by rfl, fun w hSw => by (try dsimp only at hSw); go_simp⟩) (by assumption) ?_
                try simp only [Act.put, List.setIfInBounds_toArray, List.set_cons_zero, List.set_cons_succ]
                refine wpAnyH_take (i := 17) (oi := ⟨some 112, _, _, _, _, _⟩) (v := (.int .i64 (n : Int))) rfl (by kernel_rfl) (by kernel_rfl) (by kernel_rfl) (fun _ _ _ h => h) (Or.inl ⟨by rfl, fun w hSw => by (try dsimp only at hSw); go_simp⟩) (by assumption) ?_
                try simp only [Act.put, List.setIfInBounds_toArray, List.set_cons_zero, List.set_cons_succ]
                refine wpAnyH_take (i := 18) (oi := ⟨some 113, _, _, _, _, _⟩) (v := (.bool true)) rfl (by kernel_rfl) (by kernel_rfl) (by kernel_rfl) (fun _ _ _ h => h) (Or.inl ⟨by rfl, fun w hSw => by (try dsimp only at hSw); go_simp⟩) (by assumption) ?_
                try simp only [Act.put, List.setIfInBounds_toArray, List.set_cons_zero, List.set_cons_succ]
                refine wpAnyH_take (i := 19) (oi := ⟨some 114, _, _, _, _, _⟩) (v := (.bool true)) rfl (by kernel_rfl) (by kernel_rfl) (by kernel_rfl) (fun _ _ _ h => h) (Or.inl ⟨by rfl, fun w hSw => by (try dsimp only at hSw); go_simp⟩) (by assumption) ?_
                try simp only [Act.put, List.setIfInBounds_toArray, List.set_cons_zero, List.set_cons_succ]
                refine wpAnyH_take (i := 20) (oi := ⟨some 115, _, _, _, _, _⟩) (v := (.bool true)) rfl (by kernel_rfl) (by kernel_rfl) (by kernel_rfl) (fun _ _ _ h => h) (Or.inl ⟨by rfl, fun w hSw => by (try dsimp only at hSw); go_simp⟩) (by assumption) ?_
                try simp only [Act.put, List.setIfInBounds_toArray, List.set_cons_zero, List.set_cons_succ]
                refine wpAnyH_take (i := 21) (oi := ⟨some 116, _, _, _, _, _⟩) (v := (.pointer (some ⟨fr, 0, none⟩))) rfl (by kernel_rfl) (by kernel_rfl) (by kernel_rfl) (fun _ _ _ h => h) (Or.inl ⟨by rfl, fun w hSw => by (try dsimp only at hSw); go_simp⟩) (by assumption) ?_
                try simp only [Act.put, List.setIfInBounds_toArray, List.set_cons_zero, List.set_cons_succ]
                refine wpAnyH_take (i := 22) (oi := ⟨some 117, _, _, _, _, _⟩) (v := (.pointer (some ⟨fr, 0, none⟩))) rfl (by kernel_rfl) (by kernel_rfl) (by kernel_rfl) (fun _ _ _ h => h) (Or.inl ⟨by rfl, fun w hSw => by (try dsimp only at hSw); go_simp⟩) (by assumption) ?_
                try simp only [Act.put, List.setIfInBounds_toArray, List.set_cons_zero, List.set_cons_succ]
                refine wpAnyH_take (i := 23) (oi := ⟨some 118, _, _, _, _, _⟩) (v := (.pointer (some ⟨fr, 3, none⟩))) rfl (by kernel_rfl) (by kernel_rfl) (by kernel_rfl) (fun _ _ _ h => h) (Or.inl ⟨by rfl, fun w hSw => by (try dsimp only at hSw); go_simp⟩) (by assumption) ?_
                try simp only [Act.put, List.setIfInBounds_toArray, List.set_cons_zero, List.set_cons_succ]
                refine wpAnyH_take (i := 24) (oi := ⟨some 119, _, _, _, _, _⟩) (v := (.slice (some ⟨gr, 0, none⟩) n cp)) rfl (by kernel_rfl) (by kernel_rfl) (by kernel_rfl) (fun _ _ _ h => h) (Or.inl ⟨by rfl, fun w hSw => by (try dsimp only at hSw); go_simp⟩) (by assumption) ?_
                try simp only [Act.put, List.setIfInBounds_toArray, List.set_cons_zero, List.set_cons_succ]
                refine wpAnyH_take (i := 25) (oi := ⟨some 120, _, _, _, _, _⟩) (v := (.pointer (some ⟨ab, 1, none⟩))) rfl (by kernel_rfl) (by kernel_rfl) (by kernel_rfl) (fun _ _ _ h => h) (Or.inl ⟨by rfl, fun w hSw => by (try dsimp only at hSw); go_simp⟩) (by assumption) ?_
                try simp only [Act.put, List.setIfInBounds_toArray, List.set_cons_zero, List.set_cons_succ]
                refine wpAnyH_take (i := 26) (oi := ⟨some 121, _, _, _, _, _⟩) (v := (.int .i64 z1)) rfl (by kernel_rfl) (by kernel_rfl) (by kernel_rfl) (fun _ _ _ h => h) (Or.inl ⟨by rfl, fun w hSw => by (try dsimp only at hSw); go_simp⟩) (by assumption) ?_
                try simp only [Act.put, List.setIfInBounds_toArray, List.set_cons_zero, List.set_cons_succ]
                refine wpAnyH_take (i := 27) (oi := ⟨some 122, _, _, _, _, _⟩) (v := (.pointer (some ⟨gr, z1.toNat, none⟩))) rfl (by kernel_rfl) (by kernel_rfl) (by kernel_rfl) (fun _ _ _ h => h) (Or.inl ⟨by rfl, fun w hSw => by (try dsimp only at hSw); go_simp⟩) (by assumption) ?_
                try simp only [Act.put, List.setIfInBounds_toArray, List.set_cons_zero, List.set_cons_succ]
                refine wpAnyH_take (i := 28) (oi := ⟨some 123, _, _, _, _, _⟩) (v := (.pointer none)) rfl (by kernel_rfl) (by kernel_rfl) (by kernel_rfl) (fun _ _ _ h => h) (Or.inl ⟨by rfl, fun w hSw => by (try dsimp only at hSw); go_simp⟩) (by assumption) ?_
                try simp only [Act.put, List.setIfInBounds_toArray, List.set_cons_zero, List.set_cons_succ]
                refine wpAnyH_take (i := 29) (oi := ⟨some 124, _, _, _, _, _⟩) (v := (.bool false)) rfl (by kernel_rfl) (by kernel_rfl) (by kernel_rfl) (fun _ _ _ h => h) (Or.inl ⟨by rfl, fun w hSw => by (try dsimp only at hSw); go_simp⟩) (by assumption) ?_
                try simp only [Act.put, List.setIfInBounds_toArray, List.set_cons_zero, List.set_cons_succ]
                refine wpAnyH_take (i := 30) (oi := ⟨some 125, _, _, _, _, _⟩) (v := (.bool false)) rfl (by kernel_rfl) (by kernel_rfl) (by kernel_rfl) (fun _ _ _ h => h) (Or.inl ⟨by rfl, fun w hSw => by (try dsimp only at hSw); go_simp⟩) (by assumption) ?_
                try simp only [Act.put, List.setIfInBounds_toArray, List.set_cons_zero, List.set_cons_succ]
                refine wpAnyH_take (i := 31) (oi := ⟨some 126, _, _, _, _, _⟩) (v := (.bool false)) rfl (by kernel_rfl) (by kernel_rfl) (by kernel_rfl) (fun _ _ _ h => h) (Or.inl ⟨by rfl, fun w hSw => by (try dsimp only at hSw); go_simp⟩) (by assumption) ?_
                try simp only [Act.put, List.setIfInBounds_toArray, List.set_cons_zero, List.set_cons_succ]
                refine wpAnyH_take (i := 32) (oi := ⟨some 127, _, _, _, _, _⟩) (v := (.bool false)) rfl (by kernel_rfl) (by kernel_rfl) (by kernel_rfl) (fun _ _ _ h => h) (Or.inl ⟨by rfl, fun w hSw => by (try dsimp only at hSw); go_simp⟩) (by assumption) ?_
                try simp only [Act.put, List.setIfInBounds_toArray, List.set_cons_zero, List.set_cons_succ]
                refine wpAnyH_done (by kernel_rfl) ?_ _
                go_wp2
                go_roundg k1
                case measure => omega
                case rel => exact ⟨i + 1, _, _, _, _, by first | rw [hi1] | rfl, HI', X4⟩
              | some qq =>
                rw [hq] at t0 hsm
                have HA : Aside0 (aliveL n LX z1 = true) := ⟨by rw [ea, ← hsm]; rfl⟩
                clear hq hsm ea
                change _ = some (Value.pointer (some ⟨qq, 0, none⟩)) at t0
                go_wp2_with fail
                refine wp_region_held_drew (S := (fun w' : World => w'.cell? ⟨ab, 1, none⟩ = some (.int .i64 z1) ∧ w'.cell? ⟨fr, 3, none⟩ = some (.slice (some ⟨gr, 0, none⟩) n cp) ∧ w'.cell? ⟨gr, z1.toNat, none⟩ = some (.pointer (some ⟨qq, 0, none⟩)))) (by kernel_rfl) (And.intro q0 (And.intro s0 t0)) (fun hS0 => ?_)
                refine wpAnyH_take (i := 0) (oi := ⟨some 95, _, _, _, _, _⟩) (v := (.pointer (some ⟨f, 0, none⟩))) rfl (by kernel_rfl) (by kernel_rfl) (by kernel_rfl) (fun _ _ _ h => h) (Or.inl ⟨by rfl, fun w hSw => by (try dsimp only at hSw); go_simp⟩) (by assumption) ?_
                try simp only [Act.put, List.setIfInBounds_toArray, List.set_cons_zero, List.set_cons_succ]
                refine wpAnyH_take (i := 2) (oi := ⟨some 97, _, _, _, _, _⟩) (v := (.pointer (some ⟨fr, 0, none⟩))) rfl (by kernel_rfl) (by kernel_rfl) (by kernel_rfl) (fun _ _ _ h => h) (Or.inl ⟨by rfl, fun w hSw => by (try dsimp only at hSw); go_simp⟩) (by assumption) ?_
                try simp only [Act.put, List.setIfInBounds_toArray, List.set_cons_zero, List.set_cons_succ]
                refine wpAnyH_ready (rs := [1]) (by kernel_rfl) (by simp) ?_
                refine AllReadyH.cons (o := ⟨some 96, _, _, _, _, _⟩) rfl (fun K hK => ?_) AllReadyH.nil
                go_simp
                go_at_call 33
                (with_reducible refine (Masters_calls base1 f g n b s p _ LX T1 _ X0.out.drew.P N1.out).mono ?_); rintro e w5 ⟨v5, rfl, hR5, hb⟩; have hb' := below_step (below_drew1 (Below.refl _ _)) hb; have X1 := Aside0.mk (X0.out.below hb'); have A1 := Aside0.mk (blk_below A0.out hb'); have q1 := (act_cells' A1.out).2.1; have s1 := pw_cell_below hb' s0; have t1 := pw_cell_below hb' t0; (obtain ⟨A5, c5, rfl⟩ := R_slice' hR5); have R5 := Aside0.mk hR5; clear hR5 hb hb'
                dsimp only
                refine hK.out _ _ (And.intro q1 (And.intro s1 t1)) (fun hS1 => ?_)
                clear hK K
                try simp only [Act.put, List.setIfInBounds_toArray, List.set_cons_zero, List.set_cons_succ]
                refine wpAnyH_ready (rs := [3]) (by kernel_rfl) (by simp) ?_
                refine AllReadyH.cons (o := ⟨some 98, _, _, _, _, _⟩) rfl (fun K hK => ?_) AllReadyH.nil
                go_simp
                go_at_call 34
                (with_reducible refine (RMasters_calls base2 fr gr n b s p _ LX T1 _ X1.out.R N1.out).mono ?_); rintro e w6 ⟨v6, rfl, hR6, hb⟩; have hR5' := Kd.R_below R5.out hb; have X2 := Aside0.mk (X1.out.below hb); have A2 := Aside0.mk (blk_below A1.out hb); have q2 := (act_cells' A2.out).2.1; have s2 := pw_cell_below hb s1; have t2 := pw_cell_below hb t1; (obtain ⟨A6, c6, rfl⟩ := R_slice' hR6); obtain ⟨hC5, hl5⟩ := R_C hR5'; obtain ⟨hC6, hl6⟩ := R_C hR6; have CC := Aside0.mk (And.intro (And.intro hC5 hl5) (And.intro hC6 hl6)); clear hR5' hR6 hb hC5 hl5 hC6 hl6
                dsimp only
                refine hK.out _ _ (And.intro q2 (And.intro s2 t2)) (fun hS3 => ?_)
                clear hK K
                try simp only [Act.put, List.setIfInBounds_toArray, List.set_cons_zero, List.set_cons_succ]
                refine wpAnyH_ready (rs := [4]) (by kernel_rfl) (by simp) ?_
                refine AllReadyH.cons (o := ⟨some 99, _, _, _, _, _⟩) rfl (fun K hK => ?_) AllReadyH.nil
                go_simp
                go_at_call 32
                (with_reducible refine (bellbuoyref15_SameInts.calls _ _ _ _ _ _ _ true _ CC.out.1.1 CC.out.1.2 CC.out.2.1 CC.out.2.2 (same_self _ (toldL_len _ n) N1.out)).mono ?_); rintro e w7 ⟨rfl, hd⟩; have hb := Drawn0.below hd; have X3 := Aside0.mk (X2.out.below hb); have A3 := Aside0.mk (blk_below A2.out hb); have q3 := (act_cells' A3.out).2.1; have s3 := pw_cell_below hb s2; have t3 := pw_cell_below hb t2; clear hd hb
                dsimp only
                refine hK.out _ _ (And.intro q3 (And.intro s3 t3)) (fun hS4 => ?_)
                clear hK K
                try simp only [Act.put, List.setIfInBounds_toArray, List.set_cons_zero, List.set_cons_succ]
                refine wpAnyH_take (i := 5) (oi := ⟨some 100, _, _, _, _, _⟩) (v := (.bool false)) rfl (by kernel_rfl) (by kernel_rfl) (by kernel_rfl) (fun _ _ _ h => h) (Or.inl ⟨by rfl, fun w hSw => by (try dsimp only at hSw); go_simp⟩) (by assumption) ?_
                try simp only [Act.put, List.setIfInBounds_toArray, List.set_cons_zero, List.set_cons_succ]
                refine wpAnyH_take (i := 6) (oi := ⟨some 101, _, _, _, _, _⟩) (v := (.bool false)) rfl (by kernel_rfl) (by kernel_rfl) (by kernel_rfl) (fun _ _ _ h => h) (Or.inl ⟨by rfl, fun w hSw => by (try dsimp only at hSw); go_simp⟩) (by assumption) ?_
                try simp only [Act.put, List.setIfInBounds_toArray, List.set_cons_zero, List.set_cons_succ]
                refine wpAnyH_take (i := 7) (oi := ⟨some 102, _, _, _, _, _⟩) (v := (.pointer (some ⟨f, 0, none⟩))) rfl (by kernel_rfl) (by kernel_rfl) (by kernel_rfl) (fun _ _ _ h => h) (Or.inl ⟨by rfl, fun w hSw => by (try dsimp only at hSw); go_simp⟩) (by assumption) ?_
                try simp only [Act.put, List.setIfInBounds_toArray, List.set_cons_zero, List.set_cons_succ]
                refine wpAnyH_take (i := 8) (oi := ⟨some 103, _, _, _, _, _⟩) (v := (.pointer (some ⟨ab, 1, none⟩))) rfl (by kernel_rfl) (by kernel_rfl) (by kernel_rfl) (fun _ _ _ h => h) (Or.inl ⟨by rfl, fun w hSw => by (try dsimp only at hSw); go_simp⟩) (by assumption) ?_
                try simp only [Act.put, List.setIfInBounds_toArray, List.set_cons_zero, List.set_cons_succ]
                refine wpAnyH_take (i := 9) (oi := ⟨some 104, _, _, _, _, _⟩) (v := (.int .i64 z1)) rfl (by kernel_rfl) (by kernel_rfl) (by kernel_rfl) (fun _ _ _ h => h) (Or.inl ⟨by rfl, fun w hSw => by (try dsimp only at hSw); go_simp⟩) (by assumption) ?_
                try simp only [Act.put, List.setIfInBounds_toArray, List.set_cons_zero, List.set_cons_succ]
                refine wpAnyH_take (i := 11) (oi := ⟨some 106, _, _, _, _, _⟩) (v := (.pointer (some ⟨ab, 1, none⟩))) rfl (by kernel_rfl) (by kernel_rfl) (by kernel_rfl) (fun _ _ _ h => h) (Or.inl ⟨by rfl, fun w hSw => by (try dsimp only at hSw); go_simp⟩) (by assumption) ?_
                try simp only [Act.put, List.setIfInBounds_toArray, List.set_cons_zero, List.set_cons_succ]
                refine wpAnyH_take (i := 12) (oi := ⟨some 107, _, _, _, _, _⟩) (v := (.int .i64 z1)) rfl (by kernel_rfl) (by kernel_rfl) (by kernel_rfl) (fun _ _ _ h => h) (Or.inl ⟨by rfl, fun w hSw => by (try dsimp only at hSw); go_simp⟩) (by assumption) ?_
                try simp only [Act.put, List.setIfInBounds_toArray, List.set_cons_zero, List.set_cons_succ]
                refine wpAnyH_take (i := 13) (oi := ⟨some 108, _, _, _, _, _⟩) (v := (.bool true)) rfl (by kernel_rfl) (by kernel_rfl) (by kernel_rfl) (fun _ _ _ h => h) (Or.inl ⟨by rfl, fun w hSw => by (try dsimp only at hSw); go_simp⟩) (by assumption) ?_
                try simp only [Act.put, List.setIfInBounds_toArray, List.set_cons_zero, List.set_cons_succ]
                refine wpAnyH_ready (rs := [10]) (by kernel_rfl) (by simp) ?_
                refine AllReadyH.cons (o := ⟨some 105, _, _, _, _, _⟩) rfl (fun K hK => ?_) AllReadyH.nil
                go_simp
                go_at_call 35
                (with_reducible refine (AliveL_calls base1 f g n b s p z1 _ LX T1 _ X3.out.P N1.out).mono ?_); rintro e w8 ⟨rfl, hd⟩; have hb := Drawn0.below hd; have X4 := Aside0.mk (X3.out.below hb); have A4 := Aside0.mk (blk_below A3.out hb); have q4 := (act_cells' A4.out).2.1; have s4 := pw_cell_below hb s3; have t4 := pw_cell_below hb t3; clear hd hb
                dsimp only
                refine hK.out _ _ (And.intro q4 (And.intro s4 t4)) (fun hS10 => ?_)
                clear hK K
                try simp only [Act.put, List.setIfInBounds_toArray, List.set_cons_zero, List.set_cons_succ]
                rw [HA.out]
                refine wpAnyH_take (i := 14) (oi := ⟨some 109, _, _, _, _, _⟩) (v := (.bool true)) rfl (by kernel_rfl) (by kernel_rfl) (by kernel_rfl) (fun _ _ _ h => h) (Or.inl ⟨by rfl, fun w hSw => by (try dsimp only at hSw); go_simp⟩) (by assumption) ?_
                try simp only [Act.put, List.setIfInBounds_toArray, List.set_cons_zero, List.set_cons_succ]
                refine wpAnyH_take (i := 15) (oi := ⟨some 110, _, _, _, _, _⟩) (v := (.pointer (some ⟨ab, 1, none⟩))) rfl (by kernel_rfl) (by kernel_rfl) (by kernel_rfl) (fun _ _ _ h => h) (Or.inl ⟨by rfl, fun w hSw => by (try dsimp only at hSw); go_simp⟩) (by assumption) ?_
                try simp only [Act.put, List.setIfInBounds_toArray, List.set_cons_zero, List.set_cons_succ]
                refine wpAnyH_take (i := 16) (oi := ⟨some 111, _, _, _, _, _⟩) (v := (.int .i64 z1)) rfl (by kernel_rfl) (by kernel_rfl) (by kernel_rfl) (fun _ _ _ h => h) (Or.inl ⟨by rfl, fun w hSw => by (try dsimp only at hSw); go_simp⟩) (by assumption) ?_
                try simp only [Act.put, List.setIfInBounds_toArray, List.set_cons_zero, List.set_cons_succ]
                refine wpAnyH_take (i := 17) (oi := ⟨some 112, _, _, _, _, _⟩) (v := (.int .i64 (n : Int))) rfl (by kernel_rfl) (by kernel_rfl) (by kernel_rfl) (fun _ _ _ h => h) (Or.inl ⟨by rfl, fun w hSw => by (try dsimp only at hSw); go_simp⟩) (by assumption) ?_
                try simp only [Act.put, List.setIfInBounds_toArray, List.set_cons_zero, List.set_cons_succ]
                refine wpAnyH_take (i := 18) (oi := ⟨some 113, _, _, _, _, _⟩) (v := (.bool true)) rfl (by kernel_rfl) (by kernel_rfl) (by kernel_rfl) (fun _ _ _ h => h) (Or.inl ⟨by rfl, fun w hSw => by (try dsimp only at hSw); go_simp⟩) (by assumption) ?_
                try simp only [Act.put, List.setIfInBounds_toArray, List.set_cons_zero, List.set_cons_succ]
                refine wpAnyH_take (i := 19) (oi := ⟨some 114, _, _, _, _, _⟩) (v := (.bool true)) rfl (by kernel_rfl) (by kernel_rfl) (by kernel_rfl) (fun _ _ _ h => h) (Or.inl ⟨by rfl, fun w hSw => by (try dsimp only at hSw); go_simp⟩) (by assumption) ?_
                try simp only [Act.put, List.setIfInBounds_toArray, List.set_cons_zero, List.set_cons_succ]
                refine wpAnyH_take (i := 20) (oi := ⟨some 115, _, _, _, _, _⟩) (v := (.bool true)) rfl (by kernel_rfl) (by kernel_rfl) (by kernel_rfl) (fun _ _ _ h => h) (Or.inl ⟨by rfl, fun w hSw => by (try dsimp only at hSw); go_simp⟩) (by assumption) ?_
                try simp only [Act.put, List.setIfInBounds_toArray, List.set_cons_zero, List.set_cons_succ]
                refine wpAnyH_take (i := 21) (oi := ⟨some 116, _, _, _, _, _⟩) (v := (.pointer (some ⟨fr, 0, none⟩))) rfl (by kernel_rfl) (by kernel_rfl) (by kernel_rfl) (fun _ _ _ h => h) (Or.inl ⟨by rfl, fun w hSw => by (try dsimp only at hSw); go_simp⟩) (by assumption) ?_
                try simp only [Act.put, List.setIfInBounds_toArray, List.set_cons_zero, List.set_cons_succ]
                refine wpAnyH_take (i := 22) (oi := ⟨some 117, _, _, _, _, _⟩) (v := (.pointer (some ⟨fr, 0, none⟩))) rfl (by kernel_rfl) (by kernel_rfl) (by kernel_rfl) (fun _ _ _ h => h) (Or.inl ⟨by rfl, fun w hSw => by (try dsimp only at hSw); go_simp⟩) (by assumption) ?_
                try simp only [Act.put, List.setIfInBounds_toArray, List.set_cons_zero, List.set_cons_succ]
                refine wpAnyH_take (i := 23) (oi := ⟨some 118, _, _, _, _, _⟩) (v := (.pointer (some ⟨fr, 3, none⟩))) rfl (by kernel_rfl) (by kernel_rfl) (by kernel_rfl) (fun _ _ _ h => h) (Or.inl ⟨by rfl, fun w hSw => by (try dsimp only at hSw); go_simp⟩) (by assumption) ?_
                try simp only [Act.put, List.setIfInBounds_toArray, List.set_cons_zero, List.set_cons_succ]
                refine wpAnyH_take (i := 24) (oi := ⟨some 119, _, _, _, _, _⟩) (v := (.slice (some ⟨gr, 0, none⟩) n cp)) rfl (by kernel_rfl) (by kernel_rfl) (by kernel_rfl) (fun _ _ _ h => h) (Or.inl ⟨by rfl, fun w hSw => by (try dsimp only at hSw); go_simp⟩) (by assumption) ?_
                try simp only [Act.put, List.setIfInBounds_toArray, List.set_cons_zero, List.set_cons_succ]
                refine wpAnyH_take (i := 25) (oi := ⟨some 120, _, _, _, _, _⟩) (v := (.pointer (some ⟨ab, 1, none⟩))) rfl (by kernel_rfl) (by kernel_rfl) (by kernel_rfl) (fun _ _ _ h => h) (Or.inl ⟨by rfl, fun w hSw => by (try dsimp only at hSw); go_simp⟩) (by assumption) ?_
                try simp only [Act.put, List.setIfInBounds_toArray, List.set_cons_zero, List.set_cons_succ]
                refine wpAnyH_take (i := 26) (oi := ⟨some 121, _, _, _, _, _⟩) (v := (.int .i64 z1)) rfl (by kernel_rfl) (by kernel_rfl) (by kernel_rfl) (fun _ _ _ h => h) (Or.inl ⟨by rfl, fun w hSw => by (try dsimp only at hSw); go_simp⟩) (by assumption) ?_
                try simp only [Act.put, List.setIfInBounds_toArray, List.set_cons_zero, List.set_cons_succ]
                refine wpAnyH_take (i := 27) (oi := ⟨some 122, _, _, _, _, _⟩) (v := (.pointer (some ⟨gr, z1.toNat, none⟩))) rfl (by kernel_rfl) (by kernel_rfl) (by kernel_rfl) (fun _ _ _ h => h) (Or.inl ⟨by rfl, fun w hSw => by (try dsimp only at hSw); go_simp⟩) (by assumption) ?_
                try simp only [Act.put, List.setIfInBounds_toArray, List.set_cons_zero, List.set_cons_succ]
                refine wpAnyH_take (i := 28) (oi := ⟨some 123, _, _, _, _, _⟩) (v := (.pointer (some ⟨qq, 0, none⟩))) rfl (by kernel_rfl) (by kernel_rfl) (by kernel_rfl) (fun _ _ _ h => h) (Or.inl ⟨by rfl, fun w hSw => by (try dsimp only at hSw); go_simp⟩) (by assumption) ?_
                try simp only [Act.put, List.setIfInBounds_toArray, List.set_cons_zero, List.set_cons_succ]
                refine wpAnyH_take (i := 29) (oi := ⟨some 124, _, _, _, _, _⟩) (v := (.bool true)) rfl (by kernel_rfl) (by kernel_rfl) (by kernel_rfl) (fun _ _ _ h => h) (Or.inl ⟨by rfl, fun w hSw => by (try dsimp only at hSw); go_simp⟩) (by assumption) ?_
                try simp only [Act.put, List.setIfInBounds_toArray, List.set_cons_zero, List.set_cons_succ]
                refine wpAnyH_take (i := 30) (oi := ⟨some 125, _, _, _, _, _⟩) (v := (.bool true)) rfl (by kernel_rfl) (by kernel_rfl) (by kernel_rfl) (fun _ _ _ h => h) (Or.inl ⟨by rfl, fun w hSw => by (try dsimp only at hSw); go_simp⟩) (by assumption) ?_
                try simp only [Act.put, List.setIfInBounds_toArray, List.set_cons_zero, List.set_cons_succ]
                refine wpAnyH_take (i := 31) (oi := ⟨some 126, _, _, _, _, _⟩) (v := (.bool false)) rfl (by kernel_rfl) (by kernel_rfl) (by kernel_rfl) (fun _ _ _ h => h) (Or.inl ⟨by rfl, fun w hSw => by (try dsimp only at hSw); go_simp⟩) (by assumption) ?_
                try simp only [Act.put, List.setIfInBounds_toArray, List.set_cons_zero, List.set_cons_succ]
                refine wpAnyH_take (i := 32) (oi := ⟨some 127, _, _, _, _, _⟩) (v := (.bool false)) rfl (by kernel_rfl) (by kernel_rfl) (by kernel_rfl) (fun _ _ _ h => h) (Or.inl ⟨by rfl, fun w hSw => by (try dsimp only at hSw); go_simp⟩) (by assumption) ?_
                try simp only [Act.put, List.setIfInBounds_toArray, List.set_cons_zero, List.set_cons_succ]
                refine wpAnyH_done (by kernel_rfl) ?_ _
                go_wp2
                go_roundg k1
                case measure => omega
                case rel => exact ⟨i + 1, _, _, _, _, by first | rw [hi1] | rfl, HI', X4⟩
            · have HA : Aside0 (aliveL n LX z1 = false) := ⟨by unfold aliveL; rw [decide_eq_false (by omega), Bool.false_and]⟩
              have y1 : decide (z1 ≥ 0) = true := decide_eq_true (by omega)
              have y2 : decide (0 ≤ z1) = true := decide_eq_true (by omega)
              have y3 : decide (z1 < (n : Int)) = false := decide_eq_false kn
              clear k0 kn
              go_wp2_with fail
              refine wp_region_held_drew (S := (fun w' : World => w'.cell? ⟨ab, 1, none⟩ = some (.int .i64 z1))) (by kernel_rfl) q0 (fun hS0 => ?_)
              refine wpAnyH_take (i := 0) (oi := ⟨some 95, _, _, _, _, _⟩) (v := (.pointer (some ⟨f, 0, none⟩))) rfl (by kernel_rfl) (by kernel_rfl) (by kernel_rfl) (fun _ _ _ h => h) (Or.inl ⟨by rfl, fun w hSw => by (try dsimp only at hSw); go_simp⟩) (by assumption) ?_
              try simp only [Act.put, List.setIfInBounds_toArray, List.set_cons_zero, List.set_cons_succ]
              refine wpAnyH_take (i := 2) (oi := ⟨some 97, _, _, _, _, _⟩) (v := (.pointer (some ⟨fr, 0, none⟩))) rfl (by kernel_rfl) (by kernel_rfl) (by kernel_rfl) (fun _ _ _ h => h) (Or.inl ⟨by rfl, fun w hSw => by (try dsimp only at hSw); go_simp⟩) (by assumption) ?_
              try simp only [Act.put, List.setIfInBounds_toArray, List.set_cons_zero, List.set_cons_succ]
              refine wpAnyH_ready (rs := [1]) (by kernel_rfl) (by simp) ?_
              refine AllReadyH.cons (o := ⟨some 96, _, _, _, _, _⟩) rfl (fun K hK => ?_) AllReadyH.nil
              go_simp
              go_at_call 33
              (with_reducible refine (Masters_calls base1 f g n b s p _ LX T1 _ X0.out.drew.P N1.out).mono ?_); rintro e w5 ⟨v5, rfl, hR5, hb⟩; have hb' := below_step (below_drew1 (Below.refl _ _)) hb; have X1 := Aside0.mk (X0.out.below hb'); have A1 := Aside0.mk (blk_below A0.out hb'); have q1 := (act_cells' A1.out).2.1; (obtain ⟨A5, c5, rfl⟩ := R_slice' hR5); have R5 := Aside0.mk hR5; clear hR5 hb hb'
              dsimp only
              refine hK.out _ _ q1 (fun hS1 => ?_)
              clear hK K
              try simp only [Act.put, List.setIfInBounds_toArray, List.set_cons_zero, List.set_cons_succ]
              refine wpAnyH_ready (rs := [3]) (by kernel_rfl) (by simp) ?_
              refine AllReadyH.cons (o := ⟨some 98, _, _, _, _, _⟩) rfl (fun K hK => ?_) AllReadyH.nil
              go_simp
              go_at_call 34
              (with_reducible refine (RMasters_calls base2 fr gr n b s p _ LX T1 _ X1.out.R N1.out).mono ?_); rintro e w6 ⟨v6, rfl, hR6, hb⟩; have hR5' := Kd.R_below R5.out hb; have X2 := Aside0.mk (X1.out.below hb); have A2 := Aside0.mk (blk_below A1.out hb); have q2 := (act_cells' A2.out).2.1; (obtain ⟨A6, c6, rfl⟩ := R_slice' hR6); obtain ⟨hC5, hl5⟩ := R_C hR5'; obtain ⟨hC6, hl6⟩ := R_C hR6; have CC := Aside0.mk (And.intro (And.intro hC5 hl5) (And.intro hC6 hl6)); clear hR5' hR6 hb hC5 hl5 hC6 hl6
              dsimp only
              refine hK.out _ _ q2 (fun hS3 => ?_)
              clear hK K
              try simp only [Act.put, List.setIfInBounds_toArray, List.set_cons_zero, List.set_cons_succ]
              refine wpAnyH_ready (rs := [4]) (by kernel_rfl) (by simp) ?_
              refine AllReadyH.cons (o := ⟨some 99, _, _, _, _, _⟩) rfl (fun K hK => ?_) AllReadyH.nil
              go_simp
              go_at_call 32
              (with_reducible refine (bellbuoyref15_SameInts.calls _ _ _ _ _ _ _ true _ CC.out.1.1 CC.out.1.2 CC.out.2.1 CC.out.2.2 (same_self _ (toldL_len _ n) N1.out)).mono ?_); rintro e w7 ⟨rfl, hd⟩; have hb := Drawn0.below hd; have X3 := Aside0.mk (X2.out.below hb); have A3 := Aside0.mk (blk_below A2.out hb); have q3 := (act_cells' A3.out).2.1; clear hd hb
              dsimp only
              refine hK.out _ _ q3 (fun hS4 => ?_)
              clear hK K
              try simp only [Act.put, List.setIfInBounds_toArray, List.set_cons_zero, List.set_cons_succ]
              refine wpAnyH_take (i := 5) (oi := ⟨some 100, _, _, _, _, _⟩) (v := (.bool false)) rfl (by kernel_rfl) (by kernel_rfl) (by kernel_rfl) (fun _ _ _ h => h) (Or.inl ⟨by rfl, fun w hSw => by (try dsimp only at hSw); go_simp⟩) (by assumption) ?_
              try simp only [Act.put, List.setIfInBounds_toArray, List.set_cons_zero, List.set_cons_succ]
              refine wpAnyH_take (i := 6) (oi := ⟨some 101, _, _, _, _, _⟩) (v := (.bool false)) rfl (by kernel_rfl) (by kernel_rfl) (by kernel_rfl) (fun _ _ _ h => h) (Or.inl ⟨by rfl, fun w hSw => by (try dsimp only at hSw); go_simp⟩) (by assumption) ?_
              try simp only [Act.put, List.setIfInBounds_toArray, List.set_cons_zero, List.set_cons_succ]
              refine wpAnyH_take (i := 7) (oi := ⟨some 102, _, _, _, _, _⟩) (v := (.pointer (some ⟨f, 0, none⟩))) rfl (by kernel_rfl) (by kernel_rfl) (by kernel_rfl) (fun _ _ _ h => h) (Or.inl ⟨by rfl, fun w hSw => by (try dsimp only at hSw); go_simp⟩) (by assumption) ?_
              try simp only [Act.put, List.setIfInBounds_toArray, List.set_cons_zero, List.set_cons_succ]
              refine wpAnyH_take (i := 8) (oi := ⟨some 103, _, _, _, _, _⟩) (v := (.pointer (some ⟨ab, 1, none⟩))) rfl (by kernel_rfl) (by kernel_rfl) (by kernel_rfl) (fun _ _ _ h => h) (Or.inl ⟨by rfl, fun w hSw => by (try dsimp only at hSw); go_simp⟩) (by assumption) ?_
              try simp only [Act.put, List.setIfInBounds_toArray, List.set_cons_zero, List.set_cons_succ]
              refine wpAnyH_take (i := 9) (oi := ⟨some 104, _, _, _, _, _⟩) (v := (.int .i64 z1)) rfl (by kernel_rfl) (by kernel_rfl) (by kernel_rfl) (fun _ _ _ h => h) (Or.inl ⟨by rfl, fun w hSw => by (try dsimp only at hSw); go_simp⟩) (by assumption) ?_
              try simp only [Act.put, List.setIfInBounds_toArray, List.set_cons_zero, List.set_cons_succ]
              refine wpAnyH_take (i := 11) (oi := ⟨some 106, _, _, _, _, _⟩) (v := (.pointer (some ⟨ab, 1, none⟩))) rfl (by kernel_rfl) (by kernel_rfl) (by kernel_rfl) (fun _ _ _ h => h) (Or.inl ⟨by rfl, fun w hSw => by (try dsimp only at hSw); go_simp⟩) (by assumption) ?_
              try simp only [Act.put, List.setIfInBounds_toArray, List.set_cons_zero, List.set_cons_succ]
              refine wpAnyH_take (i := 12) (oi := ⟨some 107, _, _, _, _, _⟩) (v := (.int .i64 z1)) rfl (by kernel_rfl) (by kernel_rfl) (by kernel_rfl) (fun _ _ _ h => h) (Or.inl ⟨by rfl, fun w hSw => by (try dsimp only at hSw); go_simp⟩) (by assumption) ?_
              try simp only [Act.put, List.setIfInBounds_toArray, List.set_cons_zero, List.set_cons_succ]
              refine wpAnyH_take (i := 13) (oi := ⟨some 108, _, _, _, _, _⟩) (v := (.bool true)) rfl (by kernel_rfl) (by kernel_rfl) (by kernel_rfl) (fun _ _ _ h => h) (Or.inl ⟨by rfl, fun w hSw => by (try dsimp only at hSw); go_simp⟩) (by assumption) ?_
              try simp only [Act.put, List.setIfInBounds_toArray, List.set_cons_zero, List.set_cons_succ]
              refine wpAnyH_ready (rs := [10]) (by kernel_rfl) (by simp) ?_
              refine AllReadyH.cons (o := ⟨some 105, _, _, _, _, _⟩) rfl (fun K hK => ?_) AllReadyH.nil
              go_simp
              go_at_call 35
              (with_reducible refine (AliveL_calls base1 f g n b s p z1 _ LX T1 _ X3.out.P N1.out).mono ?_); rintro e w8 ⟨rfl, hd⟩; have hb := Drawn0.below hd; have X4 := Aside0.mk (X3.out.below hb); have A4 := Aside0.mk (blk_below A3.out hb); have q4 := (act_cells' A4.out).2.1; clear hd hb
              dsimp only
              refine hK.out _ _ q4 (fun hS10 => ?_)
              clear hK K
              try simp only [Act.put, List.setIfInBounds_toArray, List.set_cons_zero, List.set_cons_succ]
              rw [HA.out]
              refine wpAnyH_take (i := 14) (oi := ⟨some 109, _, _, _, _, _⟩) (v := (.bool true)) rfl (by kernel_rfl) (by kernel_rfl) (by kernel_rfl) (fun _ _ _ h => h) (Or.inl ⟨by rfl, fun w hSw => by (try dsimp only at hSw); go_simp⟩) (by assumption) ?_
              try simp only [Act.put, List.setIfInBounds_toArray, List.set_cons_zero, List.set_cons_succ]
              refine wpAnyH_take (i := 15) (oi := ⟨some 110, _, _, _, _, _⟩) (v := (.pointer (some ⟨ab, 1, none⟩))) rfl (by kernel_rfl) (by kernel_rfl) (by kernel_rfl) (fun _ _ _ h => h) (Or.inl ⟨by rfl, fun w hSw => by (try dsimp only at hSw); go_simp⟩) (by assumption) ?_
              try simp only [Act.put, List.setIfInBounds_toArray, List.set_cons_zero, List.set_cons_succ]
              refine wpAnyH_take (i := 16) (oi := ⟨some 111, _, _, _, _, _⟩) (v := (.int .i64 z1)) rfl (by kernel_rfl) (by kernel_rfl) (by kernel_rfl) (fun _ _ _ h => h) (Or.inl ⟨by rfl, fun w hSw => by (try dsimp only at hSw); go_simp⟩) (by assumption) ?_
              try simp only [Act.put, List.setIfInBounds_toArray, List.set_cons_zero, List.set_cons_succ]
              refine wpAnyH_take (i := 17) (oi := ⟨some 112, _, _, _, _, _⟩) (v := (.int .i64 (n : Int))) rfl (by kernel_rfl) (by kernel_rfl) (by kernel_rfl) (fun _ _ _ h => h) (Or.inl ⟨by rfl, fun w hSw => by (try dsimp only at hSw); go_simp⟩) (by assumption) ?_
              try simp only [Act.put, List.setIfInBounds_toArray, List.set_cons_zero, List.set_cons_succ]
              refine wpAnyH_take (i := 18) (oi := ⟨some 113, _, _, _, _, _⟩) (v := (.bool false)) rfl (by kernel_rfl) (by kernel_rfl) (by kernel_rfl) (fun _ _ _ h => h) (Or.inl ⟨by rfl, fun w hSw => by (try dsimp only at hSw); go_simp⟩) (by assumption) ?_
              try simp only [Act.put, List.setIfInBounds_toArray, List.set_cons_zero, List.set_cons_succ]
              refine wpAnyH_take (i := 19) (oi := ⟨some 114, _, _, _, _, _⟩) (v := (.bool false)) rfl (by kernel_rfl) (by kernel_rfl) (by kernel_rfl) (fun _ _ _ h => h) (Or.inl ⟨by rfl, fun w hSw => by (try dsimp only at hSw); go_simp⟩) (by assumption) ?_
              try simp only [Act.put, List.setIfInBounds_toArray, List.set_cons_zero, List.set_cons_succ]
              refine wpAnyH_take (i := 20) (oi := ⟨some 115, _, _, _, _, _⟩) (v := (.bool false)) rfl (by kernel_rfl) (by kernel_rfl) (by kernel_rfl) (fun _ _ _ h => h) (Or.inl ⟨by rfl, fun w hSw => by (try dsimp only at hSw); go_simp⟩) (by assumption) ?_
              try simp only [Act.put, List.setIfInBounds_toArray, List.set_cons_zero, List.set_cons_succ]
              refine wpAnyH_take (i := 21) (oi := ⟨some 116, _, _, _, _, _⟩) (v := undef) rfl (by kernel_rfl) (by kernel_rfl) (by kernel_rfl) (fun _ _ _ h => h) (Or.inr ⟨by rfl, rfl⟩) (by assumption) ?_
              try simp only [Act.put, List.setIfInBounds_toArray, List.set_cons_zero, List.set_cons_succ]
              refine wpAnyH_take (i := 22) (oi := ⟨some 117, _, _, _, _, _⟩) (v := undef) rfl (by kernel_rfl) (by kernel_rfl) (by kernel_rfl) (fun _ _ _ h => h) (Or.inr ⟨by rfl, rfl⟩) (by assumption) ?_
              try simp only [Act.put, List.setIfInBounds_toArray, List.set_cons_zero, List.set_cons_succ]
              refine wpAnyH_take (i := 23) (oi := ⟨some 118, _, _, _, _, _⟩) (v := undef) rfl (by kernel_rfl) (by kernel_rfl) (by kernel_rfl) (fun _ _ _ h => h) (Or.inr ⟨by rfl, rfl⟩) (by assumption) ?_
              try simp only [Act.put, List.setIfInBounds_toArray, List.set_cons_zero, List.set_cons_succ]
              refine wpAnyH_take (i := 24) (oi := ⟨some 119, _, _, _, _, _⟩) (v := undef) rfl (by kernel_rfl) (by kernel_rfl) (by kernel_rfl) (fun _ _ _ h => h) (Or.inr ⟨by rfl, rfl⟩) (by assumption) ?_
              try simp only [Act.put, List.setIfInBounds_toArray, List.set_cons_zero, List.set_cons_succ]
              refine wpAnyH_take (i := 25) (oi := ⟨some 120, _, _, _, _, _⟩) (v := undef) rfl (by kernel_rfl) (by kernel_rfl) (by kernel_rfl) (fun _ _ _ h => h) (Or.inr ⟨by rfl, rfl⟩) (by assumption) ?_
              try simp only [Act.put, List.setIfInBounds_toArray, List.set_cons_zero, List.set_cons_succ]
              refine wpAnyH_take (i := 26) (oi := ⟨some 121, _, _, _, _, _⟩) (v := undef) rfl (by kernel_rfl) (by kernel_rfl) (by kernel_rfl) (fun _ _ _ h => h) (Or.inr ⟨by rfl, rfl⟩) (by assumption) ?_
              try simp only [Act.put, List.setIfInBounds_toArray, List.set_cons_zero, List.set_cons_succ]
              refine wpAnyH_take (i := 27) (oi := ⟨some 122, _, _, _, _, _⟩) (v := undef) rfl (by kernel_rfl) (by kernel_rfl) (by kernel_rfl) (fun _ _ _ h => h) (Or.inr ⟨by rfl, rfl⟩) (by assumption) ?_
              try simp only [Act.put, List.setIfInBounds_toArray, List.set_cons_zero, List.set_cons_succ]
              refine wpAnyH_take (i := 28) (oi := ⟨some 123, _, _, _, _, _⟩) (v := undef) rfl (by kernel_rfl) (by kernel_rfl) (by kernel_rfl) (fun _ _ _ h => h) (Or.inr ⟨by rfl, rfl⟩) (by assumption) ?_
              try simp only [Act.put, List.setIfInBounds_toArray, List.set_cons_zero, List.set_cons_succ]
              refine wpAnyH_take (i := 29) (oi := ⟨some 124, _, _, _, _, _⟩) (v := undef) rfl (by kernel_rfl) (by kernel_rfl) (by kernel_rfl) (fun _ _ _ h => h) (Or.inr ⟨by rfl, rfl⟩) (by assumption) ?_
              try simp only [Act.put, List.setIfInBounds_toArray, List.set_cons_zero, List.set_cons_succ]
              refine wpAnyH_take (i := 30) (oi := ⟨some 125, _, _, _, _, _⟩) (v := (.bool false)) rfl (by kernel_rfl) (by kernel_rfl) (by kernel_rfl) (fun _ _ _ h => h) (Or.inl ⟨by rfl, fun w hSw => by (try dsimp only at hSw); go_simp⟩) (by assumption) ?_
              try simp only [Act.put, List.setIfInBounds_toArray, List.set_cons_zero, List.set_cons_succ]
              refine wpAnyH_take (i := 31) (oi := ⟨some 126, _, _, _, _, _⟩) (v := (.bool false)) rfl (by kernel_rfl) (by kernel_rfl) (by kernel_rfl) (fun _ _ _ h => h) (Or.inl ⟨by rfl, fun w hSw => by (try dsimp only at hSw); go_simp⟩) (by assumption) ?_
              try simp only [Act.put, List.setIfInBounds_toArray, List.set_cons_zero, List.set_cons_succ]
              refine wpAnyH_take (i := 32) (oi := ⟨some 127, _, _, _, _, _⟩) (v := (.bool false)) rfl (by kernel_rfl) (by kernel_rfl) (by kernel_rfl) (fun _ _ _ h => h) (Or.inl ⟨by rfl, fun w hSw => by (try dsimp only at hSw); go_simp⟩) (by assumption) ?_
              try simp only [Act.put, List.setIfInBounds_toArray, List.set_cons_zero, List.set_cons_succ]
              refine wpAnyH_done (by kernel_rfl) ?_ _
              go_wp2
              go_roundg k1
              case measure => omega
              case rel => exact ⟨i + 1, _, _, _, _, by first | rw [hi1] | rfl, HI', X4⟩
        · have g1 : (z0 == 1) = false := beq_eq_false_iff_ne.mpr k1'
          clear k0 k1'
          obtain ⟨lost, hlost⟩ : ∃ lost, (z0 == 2) = lost := ⟨_, rfl⟩
          have H2 := Aside0.mk (part_eq z2 40 (by decide))
          have R2 := Aside0.mk (part_range z2 40 (by decide))
          generalize partV z2 40 = vm at H2 R2
          go_upto_region 13 with (fail)
          clear a0 a1 a2
          generalize wr.alloc (.cells #[.int .i64 z0, .int .i64 z1, .int .i64 z2] 58) = wq at X2 A2 ⊢
          generalize wr.heap.size = ab at A2 ⊢
          obtain ⟨q20, q21, q22⟩ := act_cells' A2.out

          have A2' := A2
          go_loopg [13] vm.toNat (fun kq v13 w' => ∃ (j : Int) (LX : Nat → Option Nd) (TX : List Int), v13 = .int .i64 j ∧ Aside0 (0 ≤ j ∧ j + kq = vm) ∧ Aside0 (FF w w' base1 base2 f g fr gr b s p n H1 HRN0 LX TX LX TX) ∧ Aside0 (w'.heap[ab]? = some (.cells #[.int .i64 z0, .int .i64 z1, .int .i64 z2] 58 (0, 0))))
          case atStart => exact ⟨0, _, _, rfl, ⟨by have := R2.out; omega⟩, X2, A2⟩
          case round =>
            obtain ⟨j, LX, TX, rfl, HJ, X3, A3⟩ := hrel
            clear X2 A2 A2' q20 q21 q22
            obtain ⟨q20, q21, q22⟩ := act_cells' A3.out
            cases gk with
            | zero =>
              have v1 : decide (j < vm) = false := decide_eq_false (by have := HJ.out; omega)
              go_wp2_with fail
              (with_reducible refine (bellbuoylaw21_part.calls z2 40 _ _ H2.out).mono ?_); rintro e w4 ⟨rfl, hd⟩
              have X4 := Aside0.mk (X3.out.below (Drawn0.below hd))
              have A4 := Aside0.mk (blk_below A3.out (Drawn0.below hd))
              clear hd X3 A3 q20 q21 q22
              have XX := X4
              have AA := A4
              clear X4 A4
              have X0 := XX
              have A0 := AA
              have q0 := (act_cells' A0.out).2.1
              clear XX
              by_cases k0 : z1 < 0
              · have HA : Aside0 (aliveL n LX z1 = false) := ⟨by unfold aliveL; rw [decide_eq_false (by omega), Bool.false_and]⟩
                have y1 : decide (z1 ≥ 0) = false := decide_eq_false (by omega)
                have y2 : decide (0 ≤ z1) = false := decide_eq_false (by omega)
                clear k0
                go_wp2_with fail
                refine wp_region_held_drew (S := (fun w' : World => w'.cell? ⟨ab, 1, none⟩ = some (.int .i64 z1))) (by kernel_rfl) q0 (fun hS0 => ?_)
                refine wpAnyH_take (i := 0) (oi := ⟨some 95, _, _, _, _, _⟩) (v := (.pointer (some ⟨f, 0, none⟩))) rfl (by kernel_rfl) (by kernel_rfl) (by kernel_rfl) (fun _ _ _ h => h) (Or.inl ⟨by rfl, fun w hSw => by (try dsimp only at hSw); go_simp⟩) (by assumption) ?_
                try simp only [Act.put, List.setIfInBounds_toArray, List.set_cons_zero, List.set_cons_succ]
                refine wpAnyH_take (i := 2) (oi := ⟨some 97, _, _, _, _, _⟩) (v := (.pointer (some ⟨fr, 0, none⟩))) rfl (by kernel_rfl) (by kernel_rfl) (by kernel_rfl) (fun _ _ _ h => h) (Or.inl ⟨by rfl, fun w hSw => by (try dsimp only at hSw); go_simp⟩) (by assumption) ?_
                try simp only [Act.put, List.setIfInBounds_toArray, List.set_cons_zero, List.set_cons_succ]
                refine wpAnyH_ready (rs := [1]) (by kernel_rfl) (by simp) ?_
                refine AllReadyH.cons (o := ⟨some 96, _, _, _, _, _⟩) rfl (fun K hK => ?_) AllReadyH.nil
                go_simp
                go_at_call 33
                (with_reducible refine (Masters_calls base1 f g n b s p _ LX TX _ X0.out.drew.P N1.out).mono ?_); rintro e w5 ⟨v5, rfl, hR5, hb⟩; have hb' := below_step (below_drew1 (Below.refl _ _)) hb; have X1 := Aside0.mk (X0.out.below hb'); have A1 := Aside0.mk (blk_below A0.out hb'); have q1 := (act_cells' A1.out).2.1; (obtain ⟨A5, c5, rfl⟩ := R_slice' hR5); have R5 := Aside0.mk hR5; clear hR5 hb hb'
                dsimp only
                refine hK.out _ _ q1 (fun hS1 => ?_)
                clear hK K
                try simp only [Act.put, List.setIfInBounds_toArray, List.set_cons_zero, List.set_cons_succ]
                refine wpAnyH_ready (rs := [3]) (by kernel_rfl) (by simp) ?_
                refine AllReadyH.cons (o := ⟨some 98, _, _, _, _, _⟩) rfl (fun K hK => ?_) AllReadyH.nil
                go_simp
                go_at_call 34
                (with_reducible refine (RMasters_calls base2 fr gr n b s p _ LX TX _ X1.out.R N1.out).mono ?_); rintro e w6 ⟨v6, rfl, hR6, hb⟩; have hR5' := Kd.R_below R5.out hb; have X2 := Aside0.mk (X1.out.below hb); have A2 := Aside0.mk (blk_below A1.out hb); have q2 := (act_cells' A2.out).2.1; (obtain ⟨A6, c6, rfl⟩ := R_slice' hR6); obtain ⟨hC5, hl5⟩ := R_C hR5'; obtain ⟨hC6, hl6⟩ := R_C hR6; have CC := Aside0.mk (And.intro (And.intro hC5 hl5) (And.intro hC6 hl6)); clear hR5' hR6 hb hC5 hl5 hC6 hl6
                dsimp only
                refine hK.out _ _ q2 (fun hS3 => ?_)
                clear hK K
                try simp only [Act.put, List.setIfInBounds_toArray, List.set_cons_zero, List.set_cons_succ]
                refine wpAnyH_ready (rs := [4]) (by kernel_rfl) (by simp) ?_
                refine AllReadyH.cons (o := ⟨some 99, _, _, _, _, _⟩) rfl (fun K hK => ?_) AllReadyH.nil
                go_simp
                go_at_call 32
                (with_reducible refine (bellbuoyref15_SameInts.calls _ _ _ _ _ _ _ true _ CC.out.1.1 CC.out.1.2 CC.out.2.1 CC.out.2.2 (same_self _ (toldL_len _ n) N1.out)).mono ?_); rintro e w7 ⟨rfl, hd⟩; have hb := Drawn0.below hd; have X3 := Aside0.mk (X2.out.below hb); have A3 := Aside0.mk (blk_below A2.out hb); have q3 := (act_cells' A3.out).2.1; clear hd hb
                dsimp only
                refine hK.out _ _ q3 (fun hS4 => ?_)
                clear hK K
                try simp only [Act.put, List.setIfInBounds_toArray, List.set_cons_zero, List.set_cons_succ]
                refine wpAnyH_take (i := 5) (oi := ⟨some 100, _, _, _, _, _⟩) (v := (.bool false)) rfl (by kernel_rfl) (by kernel_rfl) (by kernel_rfl) (fun _ _ _ h => h) (Or.inl ⟨by rfl, fun w hSw => by (try dsimp only at hSw); go_simp⟩) (by assumption) ?_
                try simp only [Act.put, List.setIfInBounds_toArray, List.set_cons_zero, List.set_cons_succ]
                refine wpAnyH_take (i := 6) (oi := ⟨some 101, _, _, _, _, _⟩) (v := (.bool false)) rfl (by kernel_rfl) (by kernel_rfl) (by kernel_rfl) (fun _ _ _ h => h) (Or.inl ⟨by rfl, fun w hSw => by (try dsimp only at hSw); go_simp⟩) (by assumption) ?_
                try simp only [Act.put, List.setIfInBounds_toArray, List.set_cons_zero, List.set_cons_succ]
                refine wpAnyH_take (i := 7) (oi := ⟨some 102, _, _, _, _, _⟩) (v := (.pointer (some ⟨f, 0, none⟩))) rfl (by kernel_rfl) (by kernel_rfl) (by kernel_rfl) (fun _ _ _ h => h) (Or.inl ⟨by rfl, fun w hSw => by (try dsimp only at hSw); go_simp⟩) (by assumption) ?_
                try simp only [Act.put, List.setIfInBounds_toArray, List.set_cons_zero, List.set_cons_succ]
                refine wpAnyH_take (i := 8) (oi := ⟨some 103, _, _, _, _, _⟩) (v := (.pointer (some ⟨ab, 1, none⟩))) rfl (by kernel_rfl) (by kernel_rfl) (by kernel_rfl) (fun _ _ _ h => h) (Or.inl ⟨by rfl, fun w hSw => by (try dsimp only at hSw); go_simp⟩) (by assumption) ?_
                try simp only [Act.put, List.setIfInBounds_toArray, List.set_cons_zero, List.set_cons_succ]
                refine wpAnyH_take (i := 9) (oi := ⟨some 104, _, _, _, _, _⟩) (v := (.int .i64 z1)) rfl (by kernel_rfl) (by kernel_rfl) (by kernel_rfl) (fun _ _ _ h => h) (Or.inl ⟨by rfl, fun w hSw => by (try dsimp only at hSw); go_simp⟩) (by assumption) ?_
                try simp only [Act.put, List.setIfInBounds_toArray, List.set_cons_zero, List.set_cons_succ]
                refine wpAnyH_take (i := 11) (oi := ⟨some 106, _, _, _, _, _⟩) (v := (.pointer (some ⟨ab, 1, none⟩))) rfl (by kernel_rfl) (by kernel_rfl) (by kernel_rfl) (fun _ _ _ h => h) (Or.inl ⟨by rfl, fun w hSw => by (try dsimp only at hSw); go_simp⟩) (by assumption) ?_
                try simp only [Act.put, List.setIfInBounds_toArray, List.set_cons_zero, List.set_cons_succ]
                refine wpAnyH_take (i := 12) (oi := ⟨some 107, _, _, _, _, _⟩) (v := (.int .i64 z1)) rfl (by kernel_rfl) (by kernel_rfl) (by kernel_rfl) (fun _ _ _ h => h) (Or.inl ⟨by rfl, fun w hSw => by (try dsimp only at hSw); go_simp⟩) (by assumption) ?_
                try simp only [Act.put, List.setIfInBounds_toArray, List.set_cons_zero, List.set_cons_succ]
                refine wpAnyH_take (i := 13) (oi := ⟨some 108, _, _, _, _, _⟩) (v := (.bool false)) rfl (by kernel_rfl) (by kernel_rfl) (by kernel_rfl) (fun _ _ _ h => h) (Or.inl ⟨by rfl, fun w hSw => by (try dsimp only at hSw); go_simp⟩) (by assumption) ?_
                try simp only [Act.put, List.setIfInBounds_toArray, List.set_cons_zero, List.set_cons_succ]
                refine wpAnyH_ready (rs := [10]) (by kernel_rfl) (by simp) ?_
                refine AllReadyH.cons (o := ⟨some 105, _, _, _, _, _⟩) rfl (fun K hK => ?_) AllReadyH.nil
                go_simp
                go_at_call 35
                (with_reducible refine (AliveL_calls base1 f g n b s p z1 _ LX TX _ X3.out.P N1.out).mono ?_); rintro e w8 ⟨rfl, hd⟩; have hb := Drawn0.below hd; have X4 := Aside0.mk (X3.out.below hb); have A4 := Aside0.mk (blk_below A3.out hb); have q4 := (act_cells' A4.out).2.1; clear hd hb
                dsimp only
                refine hK.out _ _ q4 (fun hS10 => ?_)
                clear hK K
                try simp only [Act.put, List.setIfInBounds_toArray, List.set_cons_zero, List.set_cons_succ]
                rw [HA.out]
                refine wpAnyH_take (i := 14) (oi := ⟨some 109, _, _, _, _, _⟩) (v := (.bool false)) rfl (by kernel_rfl) (by kernel_rfl) (by kernel_rfl) (fun _ _ _ h => h) (Or.inl ⟨by rfl, fun w hSw => by (try dsimp only at hSw); go_simp⟩) (by assumption) ?_
                try simp only [Act.put, List.setIfInBounds_toArray, List.set_cons_zero, List.set_cons_succ]
                refine wpAnyH_take (i := 15) (oi := ⟨some 110, _, _, _, _, _⟩) (v := undef) rfl (by kernel_rfl) (by kernel_rfl) (by kernel_rfl) (fun _ _ _ h => h) (Or.inr ⟨by rfl, rfl⟩) (by assumption) ?_
                try simp only [Act.put, List.setIfInBounds_toArray, List.set_cons_zero, List.set_cons_succ]
                refine wpAnyH_take (i := 16) (oi := ⟨some 111, _, _, _, _, _⟩) (v := undef) rfl (by kernel_rfl) (by kernel_rfl) (by kernel_rfl) (fun _ _ _ h => h) (Or.inr ⟨by rfl, rfl⟩) (by assumption) ?_
                try simp only [Act.put, List.setIfInBounds_toArray, List.set_cons_zero, List.set_cons_succ]
                refine wpAnyH_take (i := 17) (oi := ⟨some 112, _, _, _, _, _⟩) (v := undef) rfl (by kernel_rfl) (by kernel_rfl) (by kernel_rfl) (fun _ _ _ h => h) (Or.inr ⟨by rfl, rfl⟩) (by assumption) ?_
                try simp only [Act.put, List.setIfInBounds_toArray, List.set_cons_zero, List.set_cons_succ]
                refine wpAnyH_take (i := 18) (oi := ⟨some 113, _, _, _, _, _⟩) (v := undef) rfl (by kernel_rfl) (by kernel_rfl) (by kernel_rfl) (fun _ _ _ h => h) (Or.inr ⟨by rfl, rfl⟩) (by assumption) ?_
                try simp only [Act.put, List.setIfInBounds_toArray, List.set_cons_zero, List.set_cons_succ]
                refine wpAnyH_take (i := 19) (oi := ⟨some 114, _, _, _, _, _⟩) (v := (.bool false)) rfl (by kernel_rfl) (by kernel_rfl) (by kernel_rfl) (fun _ _ _ h => h) (Or.inl ⟨by rfl, fun w hSw => by (try dsimp only at hSw); go_simp⟩) (by assumption) ?_
                try simp only [Act.put, List.setIfInBounds_toArray, List.set_cons_zero, List.set_cons_succ]
                refine wpAnyH_take (i := 20) (oi := ⟨some 115, _, _, _, _, _⟩) (v := (.bool false)) rfl (by kernel_rfl) (by kernel_rfl) (by kernel_rfl) (fun _ _ _ h => h) (Or.inl ⟨by rfl, fun w hSw => by (try dsimp only at hSw); go_simp⟩) (by assumption) ?_
                try simp only [Act.put, List.setIfInBounds_toArray, List.set_cons_zero, List.set_cons_succ]
                refine wpAnyH_take (i := 21) (oi := ⟨some 116, _, _, _, _, _⟩) (v := undef) rfl (by kernel_rfl) (by kernel_rfl) (by kernel_rfl) (fun _ _ _ h => h) (Or.inr ⟨by rfl, rfl⟩) (by assumption) ?_
                try simp only [Act.put, List.setIfInBounds_toArray, List.set_cons_zero, List.set_cons_succ]
                refine wpAnyH_take (i := 22) (oi := ⟨some 117, _, _, _, _, _⟩) (v := undef) rfl (by kernel_rfl) (by kernel_rfl) (by kernel_rfl) (fun _ _ _ h => h) (Or.inr ⟨by rfl, rfl⟩) (by assumption) ?_
                try simp only [Act.put, List.setIfInBounds_toArray, List.set_cons_zero, List.set_cons_succ]
                refine wpAnyH_take (i := 23) (oi := ⟨some 118, _, _, _, _, _⟩) (v := undef) rfl (by kernel_rfl) (by kernel_rfl) (by kernel_rfl) (fun _ _ _ h => h) (Or.inr ⟨by rfl, rfl⟩) (by assumption) ?_
                try simp only [Act.put, List.setIfInBounds_toArray, List.set_cons_zero, List.set_cons_succ]
                refine wpAnyH_take (i := 24) (oi := ⟨some 119, _, _, _, _, _⟩) (v := undef) rfl (by kernel_rfl) (by kernel_rfl) (by kernel_rfl) (fun _ _ _ h => h) (Or.inr ⟨by rfl, rfl⟩) (by assumption) ?_
                try simp only [Act.put, List.setIfInBounds_toArray, List.set_cons_zero, List.set_cons_succ]
                refine wpAnyH_take (i := 25) (oi := ⟨some 120, _, _, _, _, _⟩) (v := undef) rfl (by kernel_rfl) (by kernel_rfl) (by kernel_rfl) (fun _ _ _ h => h) (Or.inr ⟨by rfl, rfl⟩) (by assumption) ?_
                try simp only [Act.put, List.setIfInBounds_toArray, List.set_cons_zero, List.set_cons_succ]
                refine wpAnyH_take (i := 26) (oi := ⟨some 121, _, _, _, _, _⟩) (v := undef) rfl (by kernel_rfl) (by kernel_rfl) (by kernel_rfl) (fun _ _ _ h => h) (Or.inr ⟨by rfl, rfl⟩) (by assumption) ?_
                try simp only [Act.put, List.setIfInBounds_toArray, List.set_cons_zero, List.set_cons_succ]
                refine wpAnyH_take (i := 27) (oi := ⟨some 122, _, _, _, _, _⟩) (v := undef) rfl (by kernel_rfl) (by kernel_rfl) (by kernel_rfl) (fun _ _ _ h => h) (Or.inr ⟨by rfl, rfl⟩) (by assumption) ?_
                try simp only [Act.put, List.setIfInBounds_toArray, List.set_cons_zero, List.set_cons_succ]
                refine wpAnyH_take (i := 28) (oi := ⟨some 123, _, _, _, _, _⟩) (v := undef) rfl (by kernel_rfl) (by kernel_rfl) (by kernel_rfl) (fun _ _ _ h => h) (Or.inr ⟨by rfl, rfl⟩) (by assumption) ?_
                try simp only [Act.put, List.setIfInBounds_toArray, List.set_cons_zero, List.set_cons_succ]
                refine wpAnyH_take (i := 29) (oi := ⟨some 124, _, _, _, _, _⟩) (v := undef) rfl (by kernel_rfl) (by kernel_rfl) (by kernel_rfl) (fun _ _ _ h => h) (Or.inr ⟨by rfl, rfl⟩) (by assumption) ?_
                try simp only [Act.put, List.setIfInBounds_toArray, List.set_cons_zero, List.set_cons_succ]
                refine wpAnyH_take (i := 30) (oi := ⟨some 125, _, _, _, _, _⟩) (v := (.bool false)) rfl (by kernel_rfl) (by kernel_rfl) (by kernel_rfl) (fun _ _ _ h => h) (Or.inl ⟨by rfl, fun w hSw => by (try dsimp only at hSw); go_simp⟩) (by assumption) ?_
                try simp only [Act.put, List.setIfInBounds_toArray, List.set_cons_zero, List.set_cons_succ]
                refine wpAnyH_take (i := 31) (oi := ⟨some 126, _, _, _, _, _⟩) (v := (.bool false)) rfl (by kernel_rfl) (by kernel_rfl) (by kernel_rfl) (fun _ _ _ h => h) (Or.inl ⟨by rfl, fun w hSw => by (try dsimp only at hSw); go_simp⟩) (by assumption) ?_
                try simp only [Act.put, List.setIfInBounds_toArray, List.set_cons_zero, List.set_cons_succ]
                refine wpAnyH_take (i := 32) (oi := ⟨some 127, _, _, _, _, _⟩) (v := (.bool false)) rfl (by kernel_rfl) (by kernel_rfl) (by kernel_rfl) (fun _ _ _ h => h) (Or.inl ⟨by rfl, fun w hSw => by (try dsimp only at hSw); go_simp⟩) (by assumption) ?_
                try simp only [Act.put, List.setIfInBounds_toArray, List.set_cons_zero, List.set_cons_succ]
                refine wpAnyH_done (by kernel_rfl) ?_ _
                go_wp2
                go_roundg k1
                case measure => omega
                case rel => exact ⟨i + 1, _, _, _, _, by first | rw [hi1] | rfl, HI', X4⟩
              · by_cases kn : z1 < (n : Int)
                · have y1 : decide (z1 ≥ 0) = true := decide_eq_true (by omega)
                  have y2 : decide (0 ≤ z1) = true := decide_eq_true (by omega)
                  have y3 : decide (z1 < (n : Int)) = true := decide_eq_true kn
                  have y4 : (0 ≤ z1) = True := eq_true (by omega)
                  have y5 : (z1 < (n : Int)) = True := eq_true kn
                  obtain ⟨vr, cp, i1, i2⟩ := X0.out.R.fv
                  obtain ⟨gcr, i3, i4⟩ := X0.out.R.gv
                  have s0 := (blk_cell i1 3).trans (show _ = some (Value.slice (some ⟨gr, 0, none⟩) n cp) from rfl)
                  have t0 := (blk_cell i3 z1.toNat).trans (i4 z1.toNat (by omega))
                  have hsm := (X0.out.R.nd.at_ z1.toNat (by omega)).some
                  have ea : aliveL n LX z1 = (LX z1.toNat).isSome := by unfold aliveL; rw [decide_eq_true (show 0 ≤ z1 ∧ z1 < ((n : Nat) : Int) by omega), Bool.true_and]
                  clear i1 i2 i3 i4 kn k0
                  cases hq : (HRN0 z1.toNat) with
                  | none =>
                    rw [hq] at t0 hsm
                    have HA : Aside0 (aliveL n LX z1 = false) := ⟨by rw [ea, ← hsm]; rfl⟩
                    clear hq hsm ea
                    change _ = some (Value.pointer none) at t0
                    go_wp2_with fail
                    refine wp_region_held_drew (S := (fun w' : World => w'.cell? ⟨ab, 1, none⟩ = some (.int .i64 z1) ∧ w'.cell? ⟨fr, 3, none⟩ = some (.slice (some ⟨gr, 0, none⟩) n cp) ∧ w'.cell? ⟨gr, z1.toNat, none⟩ = some (.pointer none))) (by kernel_rfl) (And.intro q0 (And.intro s0 t0)) (fun hS0 => ?_)
                    refine wpAnyH_take (i := 0) (oi := ⟨some 95, _, _, _, _, _⟩) (v := (.pointer (some ⟨f, 0, none⟩))) rfl (by kernel_rfl) (by kernel_rfl) (by kernel_rfl) (fun _ _ _ h => h) (Or.inl ⟨by rfl, fun w hSw => by (try dsimp only at hSw); go_simp⟩) (by assumption) ?_
                    try simp only [Act.put, List.setIfInBounds_toArray, List.set_cons_zero, List.set_cons_succ]
                    refine wpAnyH_take (i := 2) (oi := ⟨some 97, _, _, _, _, _⟩) (v := (.pointer (some ⟨fr, 0, none⟩))) rfl (by kernel_rfl) (by kernel_rfl) (by kernel_rfl) (fun _ _ _ h => h) (Or.inl ⟨by rfl, fun w hSw => by (try dsimp only at hSw); go_simp⟩) (by assumption) ?_
                    try simp only [Act.put, List.setIfInBounds_toArray, List.set_cons_zero, List.set_cons_succ]
                    refine wpAnyH_ready (rs := [1]) (by kernel_rfl) (by simp) ?_
                    refine AllReadyH.cons (o := ⟨some 96, _, _, _, _, _⟩) rfl (fun K hK => ?_) AllReadyH.nil
                    go_simp
                    go_at_call 33
                    (with_reducible refine (Masters_calls base1 f g n b s p _ LX TX _ X0.out.drew.P N1.out).mono ?_); rintro e w5 ⟨v5, rfl, hR5, hb⟩; have hb' := below_step (below_drew1 (Below.refl _ _)) hb; have X1 := Aside0.mk (X0.out.below hb'); have A1 := Aside0.mk (blk_below A0.out hb'); have q1 := (act_cells' A1.out).2.1; have s1 := pw_cell_below hb' s0; have t1 := pw_cell_below hb' t0; (obtain ⟨A5, c5, rfl⟩ := R_slice' hR5); have R5 := Aside0.mk hR5; clear hR5 hb hb'
                    dsimp only
                    refine hK.out _ _ (And.intro q1 (And.intro s1 t1)) (fun hS1 => ?_)
                    clear hK K
                    try simp only [Act.put, List.setIfInBounds_toArray, List.set_cons_zero, List.set_cons_succ]
                    refine wpAnyH_ready (rs := [3]) (by kernel_rfl) (by simp) ?_
                    refine AllReadyH.cons (o := ⟨some 98, _, _, _, _, _⟩) rfl (fun K hK => ?_) AllReadyH.nil
                    go_simp
                    go_at_call 34
                    (with_reducible refine (RMasters_calls base2 fr gr n b s p _ LX TX _ X1.out.R N1.out).mono ?_); rintro e w6 ⟨v6, rfl, hR6, hb⟩; have hR5' := Kd.R_below R5.out hb; have X2 := Aside0.mk (X1.out.below hb); have A2 := Aside0.mk (blk_below A1.out hb); have q2 := (act_cells' A2.out).2.1; have s2 := pw_cell_below hb s1; have t2 := pw_cell_below hb t1; (obtain ⟨A6, c6, rfl⟩ := R_slice' hR6); obtain ⟨hC5, hl5⟩ := R_C hR5'; obtain ⟨hC6, hl6⟩ := R_C hR6; have CC := Aside0.mk (And.intro (And.intro hC5 hl5) (And.intro hC6 hl6)); clear hR5' hR6 hb hC5 hl5 hC6 hl6
                    dsimp only
                    refine hK.out _ _ (And.intro q2 (And.intro s2 t2)) (fun hS3 => ?_)
                    clear hK K
                    try simp only [Act.put, List.setIfInBounds_toArray, List.set_cons_zero, List.set_cons_succ]
                    refine wpAnyH_ready (rs := [4]) (by kernel_rfl) (by simp) ?_
                    refine AllReadyH.cons (o := ⟨some 99, _, _, _, _, _⟩) rfl (fun K hK => ?_) AllReadyH.nil
                    go_simp
                    go_at_call 32
                    (with_reducible refine (bellbuoyref15_SameInts.calls _ _ _ _ _ _ _ true _ CC.out.1.1 CC.out.1.2 CC.out.2.1 CC.out.2.2 (same_self _ (toldL_len _ n) N1.out)).mono ?_); rintro e w7 ⟨rfl, hd⟩; have hb := Drawn0.below hd; have X3 := Aside0.mk (X2.out.below hb); have A3 := Aside0.mk (blk_below A2.out hb); have q3 := (act_cells' A3.out).2.1; have s3 := pw_cell_below hb s2; have t3 := pw_cell_below hb t2; clear hd hb
                    dsimp only
                    refine hK.out _ _ (And.intro q3 (And.intro s3 t3)) (fun hS4 => ?_)
                    clear hK K
                    try simp only [Act.put, List.setIfInBounds_toArray, List.set_cons_zero, List.set_cons_succ]
                    refine wpAnyH_take (i := 5) (oi := ⟨some 100, _, _, _, _, _⟩) (v := (.bool false)) rfl (by kernel_rfl) (by kernel_rfl) (by kernel_rfl) (fun _ _ _ h => h) (Or.inl ⟨by rfl, fun w hSw => by (try dsimp only at hSw); go_simp⟩) (by assumption) ?_
                    try simp only [Act.put, List.setIfInBounds_toArray, List.set_cons_zero, List.set_cons_succ]
                    refine wpAnyH_take (i := 6) (oi := ⟨some 101, _, _, _, _, _⟩) (v := (.bool false)) rfl (by kernel_rfl) (by kernel_rfl) (by kernel_rfl) (fun _ _ _ h => h) (Or.inl ⟨by rfl, fun w hSw => by (try dsimp only at hSw); go_simp⟩) (by assumption) ?_
                    try simp only [Act.put, List.setIfInBounds_toArray, List.set_cons_zero, List.set_cons_succ]
                    refine wpAnyH_take (i := 7) (oi := ⟨some 102, _, _, _, _, _⟩) (v := (.pointer (some ⟨f, 0, none⟩))) rfl (by kernel_rfl) (by kernel_rfl) (by kernel_rfl) (fun _ _ _ h => h) (Or.inl ⟨by rfl, fun w hSw => by (try dsimp only at hSw); go_simp⟩) (by assumption) ?_
                    try simp only [Act.put, List.setIfInBounds_toArray, List.set_cons_zero, List.set_cons_succ]
                    refine wpAnyH_take (i := 8) (oi := ⟨some 103, _, _, _, _, _⟩) (v := (.pointer (some ⟨ab, 1, none⟩))) rfl (by kernel_rfl) (by kernel_rfl) (by kernel_rfl) (fun _ _ _ h => h) (Or.inl ⟨by rfl, fun w hSw => by (try dsimp only at hSw); go_simp⟩) (by assumption) ?_
                    try simp only [Act.put, List.setIfInBounds_toArray, List.set_cons_zero, List.set_cons_succ]
                    refine wpAnyH_take (i := 9) (oi := ⟨some 104, _, _, _, _, _⟩) (v := (.int .i64 z1)) rfl (by kernel_rfl) (by kernel_rfl) (by kernel_rfl) (fun _ _ _ h => h) (Or.inl ⟨by rfl, fun w hSw => by (try dsimp only at hSw); go_simp⟩) (by assumption) ?_
                    try simp only [Act.put, List.setIfInBounds_toArray, List.set_cons_zero, List.set_cons_succ]
                    refine wpAnyH_take (i := 11) (oi := ⟨some 106, _, _, _, _, _⟩) (v := (.pointer (some ⟨ab, 1, none⟩))) rfl (by kernel_rfl) (by kernel_rfl) (by kernel_rfl) (fun _ _ _ h => h) (Or.inl ⟨by rfl, fun w hSw => by (try dsimp only at hSw); go_simp⟩) (by assumption) ?_
                    try simp only [Act.put, List.setIfInBounds_toArray, List.set_cons_zero, List.set_cons_succ]
                    refine wpAnyH_take (i := 12) (oi := ⟨some 107, _, _, _, _, _⟩) (v := (.int .i64 z1)) rfl (by kernel_rfl) (by kernel_rfl) (by kernel_rfl) (fun _ _ _ h => h) (Or.inl ⟨by rfl, fun w hSw => by (try dsimp only at hSw); go_simp⟩) (by assumption) ?_
                    try simp only [Act.put, List.setIfInBounds_toArray, List.set_cons_zero, List.set_cons_succ]
                    refine wpAnyH_take (i := 13) (oi := ⟨some 108, _, _, _, _, _⟩) (v := (.bool true)) rfl (by kernel_rfl) (by kernel_rfl) (by kernel_rfl) (fun _ _ _ h => h) (Or.inl ⟨by rfl, fun w hSw => by (try dsimp only at hSw); go_simp⟩) (by assumption) ?_
                    try simp only [Act.put, List.setIfInBounds_toArray, List.set_cons_zero, List.set_cons_succ]
                    refine wpAnyH_ready (rs := [10]) (by kernel_rfl) (by simp) ?_
                    refine AllReadyH.cons (o := ⟨some 105, _, _, _, _, _⟩) rfl (fun K hK => ?_) AllReadyH.nil
                    go_simp
                    go_at_call 35
                    (with_reducible refine (AliveL_calls base1 f g n b s p z1 _ LX TX _ X3.out.P N1.out).mono ?_); rintro e w8 ⟨rfl, hd⟩; have hb := Drawn0.below hd; have X4 := Aside0.mk (X3.out.below hb); have A4 := Aside0.mk (blk_below A3.out hb); have q4 := (act_cells' A4.out).2.1; have s4 := pw_cell_below hb s3; have t4 := pw_cell_below hb t3; clear hd hb
                    dsimp only
                    refine hK.out _ _ (And.intro q4 (And.intro s4 t4)) (fun hS10 => ?_)
                    clear hK K
                    try simp only [Act.put, List.setIfInBounds_toArray, List.set_cons_zero, List.set_cons_succ]
                    rw [HA.out]
                    refine wpAnyH_take (i := 14) (oi := ⟨some 109, _, _, _, _, _⟩) (v := (.bool true)) rfl (by kernel_rfl) (by kernel_rfl) (by kernel_rfl) (fun _ _ _ h => h) (Or.inl ⟨by rfl, fun w hSw => by (try dsimp only at hSw); go_simp⟩) (by assumption) ?_
                    try simp only [Act.put, List.setIfInBounds_toArray, List.set_cons_zero, List.set_cons_succ]
                    refine wpAnyH_take (i := 15) (oi := ⟨some 110, _, _, _, _, _⟩) (v := (.pointer (some ⟨ab, 1, none⟩))) rfl (by kernel_rfl) (by kernel_rfl) (by kernel_rfl) (fun _ _ _ h => h) (Or.inl ⟨by rfl, fun w hSw => by (try dsimp only at hSw); go_simp⟩) (by assumption) ?_
                    try simp only [Act.put, List.setIfInBounds_toArray, List.set_cons_zero, List.set_cons_succ]
                    refine wpAnyH_take (i := 16) (oi := ⟨some 111, _, _, _, _, _⟩) (v := (.int .i64 z1)) rfl (by kernel_rfl) (by kernel_rfl) (by kernel_rfl) (fun _ _ _ h => h) (Or.inl ⟨by rfl, fun w hSw => by (try dsimp only at hSw); go_simp⟩) (by assumption) ?_
                    try simp only [Act.put, List.setIfInBounds_toArray, List.set_cons_zero, List.set_cons_succ]
                    refine wpAnyH_take (i := 17) (oi := ⟨some 112, _, _, _, _, _⟩) (v := (.int .i64 (n : Int))) rfl (by kernel_rfl) (by kernel_rfl) (by kernel_rfl) (fun _ _ _ h => h) (Or.inl ⟨by rfl, fun w hSw => by (try dsimp only at hSw); go_simp⟩) (by assumption) ?_
                    try simp only [Act.put, List.setIfInBounds_toArray, List.set_cons_zero, List.set_cons_succ]
                    refine wpAnyH_take (i := 18) (oi := ⟨some 113, _, _, _, _, _⟩) (v := (.bool true)) rfl (by kernel_rfl) (by kernel_rfl) (by kernel_rfl) (fun _ _ _ h => h) (Or.inl ⟨by rfl, fun w hSw => by (try dsimp only at hSw); go_simp⟩) (by assumption) ?_
                    try simp only [Act.put, List.setIfInBounds_toArray, List.set_cons_zero, List.set_cons_succ]
                    refine wpAnyH_take (i := 19) (oi := ⟨some 114, _, _, _, _, _⟩) (v := (.bool true)) rfl (by kernel_rfl) (by kernel_rfl) (by kernel_rfl) (fun _ _ _ h => h) (Or.inl ⟨by rfl, fun w hSw => by (try dsimp only at hSw); go_simp⟩) (by assumption) ?_
                    try simp only [Act.put, List.setIfInBounds_toArray, List.set_cons_zero, List.set_cons_succ]
                    refine wpAnyH_take (i := 20) (oi := ⟨some 115, _, _, _, _, _⟩) (v := (.bool true)) rfl (by kernel_rfl) (by kernel_rfl) (by kernel_rfl) (fun _ _ _ h => h) (Or.inl ⟨by rfl, fun w hSw => by (try dsimp only at hSw); go_simp⟩) (by assumption) ?_
                    try simp only [Act.put, List.setIfInBounds_toArray, List.set_cons_zero, List.set_cons_succ]
                    refine wpAnyH_take (i := 21) (oi := ⟨some 116, _, _, _, _, _⟩) (v := (.pointer (some ⟨fr, 0, none⟩))) rfl (by kernel_rfl) (by kernel_rfl) (by kernel_rfl) (fun _ _ _ h => h) (Or.inl ⟨by rfl, fun w hSw => by (try dsimp only at hSw); go_simp⟩) (by assumption) ?_
                    try simp only [Act.put, List.setIfInBounds_toArray, List.set_cons_zero, List.set_cons_succ]
                    refine wpAnyH_take (i := 22) (oi := ⟨some 117, _, _, _, _, _⟩) (v := (.pointer (some ⟨fr, 0, none⟩))) rfl (by kernel_rfl) (by kernel_rfl) (by kernel_rfl) (fun _ _ _ h => h) (Or.inl ⟨by rfl, fun w hSw => by (try dsimp only at hSw); go_simp⟩) (by assumption) ?_
                    try simp only [Act.put, List.setIfInBounds_toArray, List.set_cons_zero, List.set_cons_succ]
                    refine wpAnyH_take (i := 23) (oi := ⟨some 118, _, _, _, _, _⟩) (v := (.pointer (some ⟨fr, 3, none⟩))) rfl (by kernel_rfl) (by kernel_rfl) (by kernel_rfl) (fun _ _ _ h => h) (Or.inl ⟨by rfl, fun w hSw => by (try dsimp only at hSw); go_simp⟩) (by assumption) ?_
                    try simp only [Act.put, List.setIfInBounds_toArray, List.set_cons_zero, List.set_cons_succ]
                    refine wpAnyH_take (i := 24) (oi := ⟨some 119, _, _, _, _, _⟩) (v := (.slice (some ⟨gr, 0, none⟩) n cp)) rfl (by kernel_rfl) (by kernel_rfl) (by kernel_rfl) (fun _ _ _ h => h) (Or.inl ⟨by rfl, fun w hSw => by (try dsimp only at hSw); go_simp⟩) (by assumption) ?_
                    try simp only [Act.put, List.setIfInBounds_toArray, List.set_cons_zero, List.set_cons_succ]
                    refine wpAnyH_take (i := 25) (oi := ⟨some 120, _, _, _, _, _⟩) (v := (.pointer (some ⟨ab, 1, none⟩))) rfl (by kernel_rfl) (by kernel_rfl) (by kernel_rfl) (fun _ _ _ h => h) (Or.inl ⟨by rfl, fun w hSw => by (try dsimp only at hSw); go_simp⟩) (by assumption) ?_
                    try simp only [Act.put, List.setIfInBounds_toArray, List.set_cons_zero, List.set_cons_succ]
                    refine wpAnyH_take (i := 26) (oi := ⟨some 121, _, _, _, _, _⟩) (v := (.int .i64 z1)) rfl (by kernel_rfl) (by kernel_rfl) (by kernel_rfl) (fun _ _ _ h => h) (Or.inl ⟨by rfl, fun w hSw => by (try dsimp only at hSw); go_simp⟩) (by assumption) ?_
                    try simp only [Act.put, List.setIfInBounds_toArray, List.set_cons_zero, List.set_cons_succ]
                    refine wpAnyH_take (i := 27) (oi := ⟨some 122, _, _, _, _, _⟩) (v := (.pointer (some ⟨gr, z1.toNat, none⟩))) rfl (by kernel_rfl) (by kernel_rfl) (by kernel_rfl) (fun _ _ _ h => h) (Or.inl ⟨by rfl, fun w hSw => by (try dsimp only at hSw); go_simp⟩) (by assumption) ?_
                    try simp only [Act.put, List.setIfInBounds_toArray, List.set_cons_zero, List.set_cons_succ]
                    refine wpAnyH_take (i := 28) (oi := ⟨some 123, _, _, _, _, _⟩) (v := (.pointer none)) rfl (by kernel_rfl) (by kernel_rfl) (by kernel_rfl) (fun _ _ _ h => h) (Or.inl ⟨by rfl, fun w hSw => by (try dsimp only at hSw); go_simp⟩) (by assumption) ?_
                    try simp only [Act.put, List.setIfInBounds_toArray, List.set_cons_zero, List.set_cons_succ]
                    refine wpAnyH_take (i := 29) (oi := ⟨some 124, _, _, _, _, _⟩) (v := (.bool false)) rfl (by kernel_rfl) (by kernel_rfl) (by kernel_rfl) (fun _ _ _ h => h) (Or.inl ⟨by rfl, fun w hSw => by (try dsimp only at hSw); go_simp⟩) (by assumption) ?_
                    try simp only [Act.put, List.setIfInBounds_toArray, List.set_cons_zero, List.set_cons_succ]
                    refine wpAnyH_take (i := 30) (oi := ⟨some 125, _, _, _, _, _⟩) (v := (.bool false)) rfl (by kernel_rfl) (by kernel_rfl) (by kernel_rfl) (fun _ _ _ h => h) (Or.inl ⟨by rfl, fun w hSw => by (try dsimp only at hSw); go_simp⟩) (by assumption) ?_
                    try simp only [Act.put, List.setIfInBounds_toArray, List.set_cons_zero, List.set_cons_succ]
                    refine wpAnyH_take (i := 31) (oi := ⟨some 126, _, _, _, _, _⟩) (v := (.bool false)) rfl (by kernel_rfl) (by kernel_rfl) (by kernel_rfl) (fun _ _ _ h => h) (Or.inl ⟨by rfl, fun w hSw => by (try dsimp only at hSw); go_simp⟩) (by assumption) ?_
                    try simp only [Act.put, List.setIfInBounds_toArray, List.set_cons_zero, List.set_cons_succ]
                    refine wpAnyH_take (i := 32) (oi := ⟨some 127, _, _, _, _, _⟩) (v := (.bool false)) rfl (by kernel_rfl) (by kernel_rfl) (by kernel_rfl) (fun _ _ _ h => h) (Or.inl ⟨by rfl, fun w hSw => by (try dsimp only at hSw); go_simp⟩) (by assumption) ?_
                    try simp only [Act.put, List.setIfInBounds_toArray, List.set_cons_zero, List.set_cons_succ]
                    refine wpAnyH_done (by kernel_rfl) ?_ _
                    go_wp2
                    go_roundg k1
                    case measure => omega
                    case rel => exact ⟨i + 1, _, _, _, _, by first | rw [hi1] | rfl, HI', X4⟩
                  | some qq =>
                    rw [hq] at t0 hsm
                    have HA : Aside0 (aliveL n LX z1 = true) := ⟨by rw [ea, ← hsm]; rfl⟩
                    clear hq hsm ea
                    change _ = some (Value.pointer (some ⟨qq, 0, none⟩)) at t0
                    go_wp2_with fail
                    refine wp_region_held_drew (S := (fun w' : World => w'.cell? ⟨ab, 1, none⟩ = some (.int .i64 z1) ∧ w'.cell? ⟨fr, 3, none⟩ = some (.slice (some ⟨gr, 0, none⟩) n cp) ∧ w'.cell? ⟨gr, z1.toNat, none⟩ = some (.pointer (some ⟨qq, 0, none⟩)))) (by kernel_rfl) (And.intro q0 (And.intro s0 t0)) (fun hS0 => ?_)
                    refine wpAnyH_take (i := 0) (oi := ⟨some 95, _, _, _, _, _⟩) (v := (.pointer (some ⟨f, 0, none⟩))) rfl (by kernel_rfl) (by kernel_rfl) (by kernel_rfl) (fun _ _ _ h => h) (Or.inl ⟨by rfl, fun w hSw => by (try dsimp only at hSw); go_simp⟩) (by assumption) ?_
                    try simp only [Act.put, List.setIfInBounds_toArray, List.set_cons_zero, List.set_cons_succ]
                    refine wpAnyH_take (i := 2) (oi := ⟨some 97, _, _, _, _, _⟩) (v := (.pointer (some ⟨fr, 0, none⟩))) rfl (by kernel_rfl) (by kernel_rfl) (by kernel_rfl) (fun _ _ _ h => h) (Or.inl ⟨by rfl, fun w hSw => by (try dsimp only at hSw); go_simp⟩) (by assumption) ?_
                    try simp only [Act.put, List.setIfInBounds_toArray, List.set_cons_zero, List.set_cons_succ]
                    refine wpAnyH_ready (rs := [1]) (by kernel_rfl) (by simp) ?_
                    refine AllReadyH.cons (o := ⟨some 96, _, _, _, _, _⟩) rfl (fun K hK => ?_) AllReadyH.nil
                    go_simp
                    go_at_call 33
                    (with_reducible refine (Masters_calls base1 f g n b s p _ LX TX _ X0.out.drew.P N1.out).mono ?_); rintro e w5 ⟨v5, rfl, hR5, hb⟩; have hb' := below_step (below_drew1 (Below.refl _ _)) hb; have X1 := Aside0.mk (X0.out.below hb'); have A1 := Aside0.mk (blk_below A0.out hb'); have q1 := (act_cells' A1.out).2.1; have s1 := pw_cell_below hb' s0; have t1 := pw_cell_below hb' t0; (obtain ⟨A5, c5, rfl⟩ := R_slice' hR5); have R5 := Aside0.mk hR5; clear hR5 hb hb'
                    dsimp only
                    refine hK.out _ _ (And.intro q1 (And.intro s1 t1)) (fun hS1 => ?_)
                    clear hK K
                    try simp only [Act.put, List.setIfInBounds_toArray, List.set_cons_zero, List.set_cons_succ]
                    refine wpAnyH_ready (rs := [3]) (by kernel_rfl) (by simp) ?_
                    refine AllReadyH.cons (o := ⟨some 98, _, _, _, _, _⟩) rfl (fun K hK => ?_) AllReadyH.nil
                    go_simp
                    go_at_call 34
                    (with_reducible refine (RMasters_calls base2 fr gr n b s p _ LX TX _ X1.out.R N1.out).mono ?_); rintro e w6 ⟨v6, rfl, hR6, hb⟩; have hR5' := Kd.R_below R5.out hb; have X2 := Aside0.mk (X1.out.below hb); have A2 := Aside0.mk (blk_below A1.out hb); have q2 := (act_cells' A2.out).2.1; have s2 := pw_cell_below hb s1; have t2 := pw_cell_below hb t1; (obtain ⟨A6, c6, rfl⟩ := R_slice' hR6); obtain ⟨hC5, hl5⟩ := R_C hR5'; obtain ⟨hC6, hl6⟩ := R_C hR6; have CC := Aside0.mk (And.intro (And.intro hC5 hl5) (And.intro hC6 hl6)); clear hR5' hR6 hb hC5 hl5 hC6 hl6
                    dsimp only
                    refine hK.out _ _ (And.intro q2 (And.intro s2 t2)) (fun hS3 => ?_)
                    clear hK K
                    try simp only [Act.put, List.setIfInBounds_toArray, List.set_cons_zero, List.set_cons_succ]
                    refine wpAnyH_ready (rs := [4]) (by kernel_rfl) (by simp) ?_
                    refine AllReadyH.cons (o := ⟨some 99, _, _, _, _, _⟩) rfl (fun K hK => ?_) AllReadyH.nil
                    go_simp
                    go_at_call 32
                    (with_reducible refine (bellbuoyref15_SameInts.calls _ _ _ _ _ _ _ true _ CC.out.1.1 CC.out.1.2 CC.out.2.1 CC.out.2.2 (same_self _ (toldL_len _ n) N1.out)).mono ?_); rintro e w7 ⟨rfl, hd⟩; have hb := Drawn0.below hd; have X3 := Aside0.mk (X2.out.below hb); have A3 := Aside0.mk (blk_below A2.out hb); have q3 := (act_cells' A3.out).2.1; have s3 := pw_cell_below hb s2; have t3 := pw_cell_below hb t2; clear hd hb
                    dsimp only
                    refine hK.out _ _ (And.intro q3 (And.intro s3 t3)) (fun hS4 => ?_)
                    clear hK K
                    try simp only [Act.put, List.setIfInBounds_toArray, List.set_cons_zero, List.set_cons_succ]
                    refine wpAnyH_take (i := 5) (oi := ⟨some 100, _, _, _, _, _⟩) (v := (.bool false)) rfl (by kernel_rfl) (by kernel_rfl) (by kernel_rfl) (fun _ _ _ h => h) (Or.inl ⟨by rfl, fun w hSw => by (try dsimp only at hSw); go_simp⟩) (by assumption) ?_
                    try simp only [Act.put, List.setIfInBounds_toArray, List.set_cons_zero, List.set_cons_succ]
                    refine wpAnyH_take (i := 6) (oi := ⟨some 101, _, _, _, _, _⟩) (v := (.bool false)) rfl (by kernel_rfl) (by kernel_rfl) (by kernel_rfl) (fun _ _ _ h => h) (Or.inl ⟨by rfl, fun w hSw => by (try dsimp only at hSw); go_simp⟩) (by assumption) ?_
                    try simp only [Act.put, List.setIfInBounds_toArray, List.set_cons_zero, List.set_cons_succ]
                    refine wpAnyH_take (i := 7) (oi := ⟨some 102, _, _, _, _, _⟩) (v := (.pointer (some ⟨f, 0, none⟩))) rfl (by kernel_rfl) (by kernel_rfl) (by kernel_rfl) (fun _ _ _ h => h) (Or.inl ⟨by rfl, fun w hSw => by (try dsimp only at hSw); go_simp⟩) (by assumption) ?_
                    try simp only [Act.put, List.setIfInBounds_toArray, List.set_cons_zero, List.set_cons_succ]
                    refine wpAnyH_take (i := 8) (oi := ⟨some 103, _, _, _, _, _⟩) (v := (.pointer (some ⟨ab, 1, none⟩))) rfl (by kernel_rfl) (by kernel_rfl) (by kernel_rfl) (fun _ _ _ h => h) (Or.inl ⟨by rfl, fun w hSw => by (try dsimp only at hSw); go_simp⟩) (by assumption) ?_
                    try simp only [Act.put, List.setIfInBounds_toArray, List.set_cons_zero, List.set_cons_succ]
                    refine wpAnyH_take (i := 9) (oi := ⟨some 104, _, _, _, _, _⟩) (v := (.int .i64 z1)) rfl (by kernel_rfl) (by kernel_rfl) (by kernel_rfl) (fun _ _ _ h => h) (Or.inl ⟨by rfl, fun w hSw => by (try dsimp only at hSw); go_simp⟩) (by assumption) ?_
                    try simp only [Act.put, List.setIfInBounds_toArray, List.set_cons_zero, List.set_cons_succ]
                    refine wpAnyH_take (i := 11) (oi := ⟨some 106, _, _, _, _, _⟩) (v := (.pointer (some ⟨ab, 1, none⟩))) rfl (by kernel_rfl) (by kernel_rfl) (by kernel_rfl) (fun _ _ _ h => h) (Or.inl ⟨by rfl, fun w hSw => by (try dsimp only at hSw); go_simp⟩) (by assumption) ?_
                    try simp only [Act.put, List.setIfInBounds_toArray, List.set_cons_zero, List.set_cons_succ]
                    refine wpAnyH_take (i := 12) (oi := ⟨some 107, _, _, _, _, _⟩) (v := (.int .i64 z1)) rfl (by kernel_rfl) (by kernel_rfl) (by kernel_rfl) (fun _ _ _ h => h) (Or.inl ⟨by rfl, fun w hSw => by (try dsimp only at hSw); go_simp⟩) (by assumption) ?_
                    try simp only [Act.put, List.setIfInBounds_toArray, List.set_cons_zero, List.set_cons_succ]
                    refine wpAnyH_take (i := 13) (oi := ⟨some 108, _, _, _, _, _⟩) (v := (.bool true)) rfl (by kernel_rfl) (by kernel_rfl) (by kernel_rfl) (fun _ _ _ h => h) (Or.inl ⟨by rfl, fun w hSw => by (try dsimp only at hSw); go_simp⟩) (by assumption) ?_
                    try simp only [Act.put, List.setIfInBounds_toArray, List.set_cons_zero, List.set_cons_succ]
                    refine wpAnyH_ready (rs := [10]) (by kernel_rfl) (by simp) ?_
                    refine AllReadyH.cons (o := ⟨some 105, _, _, _, _, _⟩) rfl (fun K hK => ?_) AllReadyH.nil
                    go_simp
                    go_at_call 35
                    (with_reducible refine (AliveL_calls base1 f g n b s p z1 _ LX TX _ X3.out.P N1.out).mono ?_); rintro e w8 ⟨rfl, hd⟩; have hb := Drawn0.below hd; have X4 := Aside0.mk (X3.out.below hb); have A4 := Aside0.mk (blk_below A3.out hb); have q4 := (act_cells' A4.out).2.1; have s4 := pw_cell_below hb s3; have t4 := pw_cell_below hb t3; clear hd hb
                    dsimp only
                    refine hK.out _ _ (And.intro q4 (And.intro s4 t4)) (fun hS10 => ?_)
                    clear hK K
                    try simp only [Act.put, List.setIfInBounds_toArray, List.set_cons_zero, List.set_cons_succ]
                    rw [HA.out]
                    refine wpAnyH_take (i := 14) (oi := ⟨some 109, _, _, _, _, _⟩) (v := (.bool true)) rfl (by kernel_rfl) (by kernel_rfl) (by kernel_rfl) (fun _ _ _ h => h) (Or.inl ⟨by rfl, fun w hSw => by (try dsimp only at hSw); go_simp⟩) (by assumption) ?_
                    try simp only [Act.put, List.setIfInBounds_toArray, List.set_cons_zero, List.set_cons_succ]
                    refine wpAnyH_take (i := 15) (oi := ⟨some 110, _, _, _, _, _⟩) (v := (.pointer (some ⟨ab, 1, none⟩))) rfl (by kernel_rfl) (by kernel_rfl) (by kernel_rfl) (fun _ _ _ h => h) (Or.inl ⟨by rfl, fun w hSw => by (try dsimp only at hSw); go_simp⟩) (by assumption) ?_
                    try simp only [Act.put, List.setIfInBounds_toArray, List.set_cons_zero, List.set_cons_succ]
                    refine wpAnyH_take (i := 16) (oi := ⟨some 111, _, _, _, _, _⟩) (v := (.int .i64 z1)) rfl (by kernel_rfl) (by kernel_rfl) (by kernel_rfl) (fun _ _ _ h => h) (Or.inl ⟨by rfl, fun w hSw => by (try dsimp only at hSw); go_simp⟩) (by assumption) ?_
                    try simp only [Act.put, List.setIfInBounds_toArray, List.set_cons_zero, List.set_cons_succ]
                    refine wpAnyH_take (i := 17) (oi := ⟨some 112, _, _, _, _, _⟩) (v := (.int .i64 (n : Int))) rfl (by kernel_rfl) (by kernel_rfl) (by kernel_rfl) (fun _ _ _ h => h) (Or.inl ⟨by rfl, fun w hSw => by (try dsimp only at hSw); go_simp⟩) (by assumption) ?_
                    try simp only [Act.put, List.setIfInBounds_toArray, List.set_cons_zero, List.set_cons_succ]
                    refine wpAnyH_take (i := 18) (oi := ⟨some 113, _, _, _, _, _⟩) (v := (.bool true)) rfl (by kernel_rfl) (by kernel_rfl) (by kernel_rfl) (fun _ _ _ h => h) (Or.inl ⟨by rfl, fun w hSw => by (try dsimp only at hSw); go_simp⟩) (by assumption) ?_
                    try simp only [Act.put, List.setIfInBounds_toArray, List.set_cons_zero, List.set_cons_succ]
                    refine wpAnyH_take (i := 19) (oi := ⟨some 114, _, _, _, _, _⟩) (v := (.bool true)) rfl (by kernel_rfl) (by kernel_rfl) (by kernel_rfl) (fun _ _ _ h => h) (Or.inl ⟨by rfl, fun w hSw => by (try dsimp only at hSw); go_simp⟩) (by assumption) ?_
                    try simp only [Act.put, List.setIfInBounds_toArray, List.set_cons_zero, List.set_cons_succ]
                    refine wpAnyH_take (i := 20) (oi := ⟨some 115, _, _, _, _, _⟩) (v := (.bool true)) rfl (by kernel_rfl) (by kernel_rfl) (by kernel_rfl) (fun _ _ _ h => h) (Or.inl ⟨by rfl, fun w hSw => by (try dsimp only at hSw); go_simp⟩) (by assumption) ?_
                    try simp only [Act.put, List.setIfInBounds_toArray, List.set_cons_zero, List.set_cons_succ]
                    refine wpAnyH_take (i := 21) (oi := ⟨some 116, _, _, _, _, _⟩) (v := (.pointer (some ⟨fr, 0, none⟩))) rfl (by kernel_rfl) (by kernel_rfl) (by kernel_rfl) (fun _ _ _ h => h) (Or.inl ⟨by rfl, fun w hSw => by (try dsimp only at hSw); go_simp⟩) (by assumption) ?_
                    try simp only [Act.put, List.setIfInBounds_toArray, List.set_cons_zero, List.set_cons_succ]
                    refine wpAnyH_take (i := 22) (oi := ⟨some 117, _, _, _, _, _⟩) (v := (.pointer (some ⟨fr, 0, none⟩))) rfl (by kernel_rfl) (by kernel_rfl) (by kernel_rfl) (fun _ _ _ h => h) (Or.inl ⟨by rfl, fun w hSw => by (try dsimp only at hSw); go_simp⟩) (by assumption) ?_
                    try simp only [Act.put, List.setIfInBounds_toArray, List.set_cons_zero, List.set_cons_succ]
                    refine wpAnyH_take (i := 23) (oi := ⟨some 118, _, _, _, _, _⟩) (v := (.pointer (some ⟨fr, 3, none⟩))) rfl (by kernel_rfl) (by kernel_rfl) (by kernel_rfl) (fun _ _ _ h => h) (Or.inl ⟨by rfl, fun w hSw => by (try dsimp only at hSw); go_simp⟩) (by assumption) ?_
                    try simp only [Act.put, List.setIfInBounds_toArray, List.set_cons_zero, List.set_cons_succ]
                    refine wpAnyH_take (i := 24) (oi := ⟨some 119, _, _, _, _, _⟩) (v := (.slice (some ⟨gr, 0, none⟩) n cp)) rfl (by kernel_rfl) (by kernel_rfl) (by kernel_rfl) (fun _ _ _ h => h) (Or.inl ⟨by rfl, fun w hSw => by (try dsimp only at hSw); go_simp⟩) (by assumption) ?_
                    try simp only [Act.put, List.setIfInBounds_toArray, List.set_cons_zero, List.set_cons_succ]
                    refine wpAnyH_take (i := 25) (oi := ⟨some 120, _, _, _, _, _⟩) (v := (.pointer (some ⟨ab, 1, none⟩))) rfl (by kernel_rfl) (by kernel_rfl) (by kernel_rfl) (fun _ _ _ h => h) (Or.inl ⟨by rfl, fun w hSw => by (try dsimp only at hSw); go_simp⟩) (by assumption) ?_
                    try simp only [Act.put, List.setIfInBounds_toArray, List.set_cons_zero, List.set_cons_succ]
                    refine wpAnyH_take (i := 26) (oi := ⟨some 121, _, _, _, _, _⟩) (v := (.int .i64 z1)) rfl (by kernel_rfl) (by kernel_rfl) (by kernel_rfl) (fun _ _ _ h => h) (Or.inl ⟨by rfl, fun w hSw => by (try dsimp only at hSw); go_simp⟩) (by assumption) ?_
                    try simp only [Act.put, List.setIfInBounds_toArray, List.set_cons_zero, List.set_cons_succ]
                    refine wpAnyH_take (i := 27) (oi := ⟨some 122, _, _, _, _, _⟩) (v := (.pointer (some ⟨gr, z1.toNat, none⟩))) rfl (by kernel_rfl) (by kernel_rfl) (by kernel_rfl) (fun _ _ _ h => h) (Or.inl ⟨by rfl, fun w hSw => by (try dsimp only at hSw); go_simp⟩) (by assumption) ?_
                    try simp only [Act.put, List.setIfInBounds_toArray, List.set_cons_zero, List.set_cons_succ]
                    refine wpAnyH_take (i := 28) (oi := ⟨some 123, _, _, _, _, _⟩) (v := (.pointer (some ⟨qq, 0, none⟩))) rfl (by kernel_rfl) (by kernel_rfl) (by kernel_rfl) (fun _ _ _ h => h) (Or.inl ⟨by rfl, fun w hSw => by (try dsimp only at hSw); go_simp⟩) (by assumption) ?_
                    try simp only [Act.put, List.setIfInBounds_toArray, List.set_cons_zero, List.set_cons_succ]
                    refine wpAnyH_take (i := 29) (oi := ⟨some 124, _, _, _, _, _⟩) (v := (.bool true)) rfl (by kernel_rfl) (by kernel_rfl) (by kernel_rfl) (fun _ _ _ h => h) (Or.inl ⟨by rfl, fun w hSw => by (try dsimp only at hSw); go_simp⟩) (by assumption) ?_
                    try simp only [Act.put, List.setIfInBounds_toArray, List.set_cons_zero, List.set_cons_succ]
                    refine wpAnyH_take (i := 30) (oi := ⟨some 125, _, _, _, _, _⟩) (v := (.bool true)) rfl (by kernel_rfl) (by kernel_rfl) (by kernel_rfl) (fun _ _ _ h => h) (Or.inl ⟨by rfl, fun w hSw => by (try dsimp only at hSw); go_simp⟩) (by assumption) ?_
                    try simp only [Act.put, List.setIfInBounds_toArray, List.set_cons_zero, List.set_cons_succ]
                    refine wpAnyH_take (i := 31) (oi := ⟨some 126, _, _, _, _, _⟩) (v := (.bool false)) rfl (by kernel_rfl) (by kernel_rfl) (by kernel_rfl) (fun _ _ _ h => h) (Or.inl ⟨by rfl, fun w hSw => by (try dsimp only at hSw); go_simp⟩) (by assumption) ?_
                    try simp only [Act.put, List.setIfInBounds_toArray, List.set_cons_zero, List.set_cons_succ]
                    refine wpAnyH_take (i := 32) (oi := ⟨some 127, _, _, _, _, _⟩) (v := (.bool false)) rfl (by kernel_rfl) (by kernel_rfl) (by kernel_rfl) (fun _ _ _ h => h) (Or.inl ⟨by rfl, fun w hSw => by (try dsimp only at hSw); go_simp⟩) (by assumption) ?_
                    try simp only [Act.put, List.setIfInBounds_toArray, List.set_cons_zero, List.set_cons_succ]
                    refine wpAnyH_done (by kernel_rfl) ?_ _
                    go_wp2
                    go_roundg k1
                    case measure => omega
                    case rel => exact ⟨i + 1, _, _, _, _, by first | rw [hi1] | rfl, HI', X4⟩
                · have HA : Aside0 (aliveL n LX z1 = false) := ⟨by unfold aliveL; rw [decide_eq_false (by omega), Bool.false_and]⟩
                  have y1 : decide (z1 ≥ 0) = true := decide_eq_true (by omega)
                  have y2 : decide (0 ≤ z1) = true := decide_eq_true (by omega)
                  have y3 : decide (z1 < (n : Int)) = false := decide_eq_false kn
                  clear k0 kn
                  go_wp2_with fail
                  refine wp_region_held_drew (S := (fun w' : World => w'.cell? ⟨ab, 1, none⟩ = some (.int .i64 z1))) (by kernel_rfl) q0 (fun hS0 => ?_)
                  refine wpAnyH_take (i := 0) (oi := ⟨some 95, _, _, _, _, _⟩) (v := (.pointer (some ⟨f, 0, none⟩))) rfl (by kernel_rfl) (by kernel_rfl) (by kernel_rfl) (fun _ _ _ h => h) (Or.inl ⟨by rfl, fun w hSw => by (try dsimp only at hSw); go_simp⟩) (by assumption) ?_
                  try simp only [Act.put, List.setIfInBounds_toArray, List.set_cons_zero, List.set_cons_succ]
                  refine wpAnyH_take (i := 2) (oi := ⟨some 97, _, _, _, _, _⟩) (v := (.pointer (some ⟨fr, 0, none⟩))) rfl (by kernel_rfl) (by kernel_rfl) (by kernel_rfl) (fun _ _ _ h => h) (Or.inl ⟨by rfl, fun w hSw => by (try dsimp only at hSw); go_simp⟩) (by assumption) ?_
                  try simp only [Act.put, List.setIfInBounds_toArray, List.set_cons_zero, List.set_cons_succ]
                  refine wpAnyH_ready (rs := [1]) (by kernel_rfl) (by simp) ?_
                  refine AllReadyH.cons (o := ⟨some 96, _, _, _, _, _⟩) rfl (fun K hK => ?_) AllReadyH.nil
                  go_simp
                  go_at_call 33
                  (with_reducible refine (Masters_calls base1 f g n b s p _ LX TX _ X0.out.drew.P N1.out).mono ?_); rintro e w5 ⟨v5, rfl, hR5, hb⟩; have hb' := below_step (below_drew1 (Below.refl _ _)) hb; have X1 := Aside0.mk (X0.out.below hb'); have A1 := Aside0.mk (blk_below A0.out hb'); have q1 := (act_cells' A1.out).2.1; (obtain ⟨A5, c5, rfl⟩ := R_slice' hR5); have R5 := Aside0.mk hR5; clear hR5 hb hb'
                  dsimp only
                  refine hK.out _ _ q1 (fun hS1 => ?_)
                  clear hK K
                  try simp only [Act.put, List.setIfInBounds_toArray, List.set_cons_zero, List.set_cons_succ]
                  refine wpAnyH_ready (rs := [3]) (by kernel_rfl) (by simp) ?_
                  refine AllReadyH.cons (o := ⟨some 98, _, _, _, _, _⟩) rfl (fun K hK => ?_) AllReadyH.nil
                  go_simp
                  go_at_call 34
                  (with_reducible refine (RMasters_calls base2 fr gr n b s p _ LX TX _ X1.out.R N1.out).mono ?_); rintro e w6 ⟨v6, rfl, hR6, hb⟩; have hR5' := Kd.R_below R5.out hb; have X2 := Aside0.mk (X1.out.below hb); have A2 := Aside0.mk (blk_below A1.out hb); have q2 := (act_cells' A2.out).2.1; (obtain ⟨A6, c6, rfl⟩ := R_slice' hR6); obtain ⟨hC5, hl5⟩ := R_C hR5'; obtain ⟨hC6, hl6⟩ := R_C hR6; have CC := Aside0.mk (And.intro (And.intro hC5 hl5) (And.intro hC6 hl6)); clear hR5' hR6 hb hC5 hl5 hC6 hl6
                  dsimp only
                  refine hK.out _ _ q2 (fun hS3 => ?_)
                  clear hK K
                  try simp only [Act.put, List.setIfInBounds_toArray, List.set_cons_zero, List.set_cons_succ]
                  refine wpAnyH_ready (rs := [4]) (by kernel_rfl) (by simp) ?_
                  refine AllReadyH.cons (o := ⟨some 99, _, _, _, _, _⟩) rfl (fun K hK => ?_) AllReadyH.nil
                  go_simp
                  go_at_call 32
                  (with_reducible refine (bellbuoyref15_SameInts.calls _ _ _ _ _ _ _ true _ CC.out.1.1 CC.out.1.2 CC.out.2.1 CC.out.2.2 (same_self _ (toldL_len _ n) N1.out)).mono ?_); rintro e w7 ⟨rfl, hd⟩; have hb := Drawn0.below hd; have X3 := Aside0.mk (X2.out.below hb); have A3 := Aside0.mk (blk_below A2.out hb); have q3 := (act_cells' A3.out).2.1; clear hd hb
                  dsimp only
                  refine hK.out _ _ q3 (fun hS4 => ?_)
                  clear hK K
                  try simp only [Act.put, List.setIfInBounds_toArray, List.set_cons_zero, List.set_cons_succ]
                  refine wpAnyH_take (i := 5) (oi := ⟨some 100, _, _, _, _, _⟩) (v := (.bool false)) rfl (by kernel_rfl) (by kernel_rfl) (by kernel_rfl) (fun _ _ _ h => h) (Or.inl ⟨by rfl, fun w hSw => by (try dsimp only at hSw); go_simp⟩) (by assumption) ?_
                  try simp only [Act.put, List.setIfInBounds_toArray, List.set_cons_zero, List.set_cons_succ]
                  refine wpAnyH_take (i := 6) (oi := ⟨some 101, _, _, _, _, _⟩) (v := (.bool false)) rfl (by kernel_rfl) (by kernel_rfl) (by kernel_rfl) (fun _ _ _ h => h) (Or.inl ⟨by rfl, fun w hSw => by (try dsimp only at hSw); go_simp⟩) (by assumption) ?_
                  try simp only [Act.put, List.setIfInBounds_toArray, List.set_cons_zero, List.set_cons_succ]
                  refine wpAnyH_take (i := 7) (oi := ⟨some 102, _, _, _, _, _⟩) (v := (.pointer (some ⟨f, 0, none⟩))) rfl (by kernel_rfl) (by kernel_rfl) (by kernel_rfl) (fun _ _ _ h => h) (Or.inl ⟨by rfl, fun w hSw => by (try dsimp only at hSw); go_simp⟩) (by assumption) ?_
                  try simp only [Act.put, List.setIfInBounds_toArray, List.set_cons_zero, List.set_cons_succ]
                  refine wpAnyH_take (i := 8) (oi := ⟨some 103, _, _, _, _, _⟩) (v := (.pointer (some ⟨ab, 1, none⟩))) rfl (by kernel_rfl) (by kernel_rfl) (by kernel_rfl) (fun _ _ _ h => h) (Or.inl ⟨by rfl, fun w hSw => by (try dsimp only at hSw); go_simp⟩) (by assumption) ?_
                  try simp only [Act.put, List.setIfInBounds_toArray, List.set_cons_zero, List.set_cons_succ]
                  refine wpAnyH_take (i := 9) (oi := ⟨some 104, _, _, _, _, _⟩) (v := (.int .i64 z1)) rfl (by kernel_rfl) (by kernel_rfl) (by kernel_rfl) (fun _ _ _ h => h) (Or.inl ⟨by rfl, fun w hSw => by (try dsimp only at hSw); go_simp⟩) (by assumption) ?_
                  try simp only [Act.put, List.setIfInBounds_toArray, List.set_cons_zero, List.set_cons_succ]
                  refine wpAnyH_take (i := 11) (oi := ⟨some 106, _, _, _, _, _⟩) (v := (.pointer (some ⟨ab, 1, none⟩))) rfl (by kernel_rfl) (by kernel_rfl) (by kernel_rfl) (fun _ _ _ h => h) (Or.inl ⟨by rfl, fun w hSw => by (try dsimp only at hSw); go_simp⟩) (by assumption) ?_
                  try simp only [Act.put, List.setIfInBounds_toArray, List.set_cons_zero, List.set_cons_succ]
                  refine wpAnyH_take (i := 12) (oi := ⟨some 107, _, _, _, _, _⟩) (v := (.int .i64 z1)) rfl (by kernel_rfl) (by kernel_rfl) (by kernel_rfl) (fun _ _ _ h => h) (Or.inl ⟨by rfl, fun w hSw => by (try dsimp only at hSw); go_simp⟩) (by assumption) ?_
                  try simp only [Act.put, List.setIfInBounds_toArray, List.set_cons_zero, List.set_cons_succ]
                  refine wpAnyH_take (i := 13) (oi := ⟨some 108, _, _, _, _, _⟩) (v := (.bool true)) rfl (by kernel_rfl) (by kernel_rfl) (by kernel_rfl) (fun _ _ _ h => h) (Or.inl ⟨by rfl, fun w hSw => by (try dsimp only at hSw); go_simp⟩) (by assumption) ?_
                  try simp only [Act.put, List.setIfInBounds_toArray, List.set_cons_zero, List.set_cons_succ]
                  refine wpAnyH_ready (rs := [10]) (by kernel_rfl) (by simp) ?_
                  refine AllReadyH.cons (o := ⟨some 105, _, _, _, _, _⟩) rfl (fun K hK => ?_) AllReadyH.nil
                  go_simp
                  go_at_call 35
                  (with_reducible refine (AliveL_calls base1 f g n b s p z1 _ LX TX _ X3.out.P N1.out).mono ?_); rintro e w8 ⟨rfl, hd⟩; have hb := Drawn0.below hd; have X4 := Aside0.mk (X3.out.below hb); have A4 := Aside0.mk (blk_below A3.out hb); have q4 := (act_cells' A4.out).2.1; clear hd hb
                  dsimp only
                  refine hK.out _ _ q4 (fun hS10 => ?_)
                  clear hK K
                  try simp only [Act.put, List.setIfInBounds_toArray, List.set_cons_zero, List.set_cons_succ]
                  rw [HA.out]
                  refine wpAnyH_take (i := 14) (oi := ⟨some 109, _, _, _, _, _⟩) (v := (.bool true)) rfl (by kernel_rfl) (by kernel_rfl) (by kernel_rfl) (fun _ _ _ h => h) (Or.inl ⟨by rfl, fun w hSw => by (try dsimp only at hSw); go_simp⟩) (by assumption) ?_
                  try simp only [Act.put, List.setIfInBounds_toArray, List.set_cons_zero, List.set_cons_succ]
                  refine wpAnyH_take (i := 15) (oi := ⟨some 110, _, _, _, _, _⟩) (v := (.pointer (some ⟨ab, 1, none⟩))) rfl (by kernel_rfl) (by kernel_rfl) (by kernel_rfl) (fun _ _ _ h => h) (Or.inl ⟨by rfl, fun w hSw => by (try dsimp only at hSw); go_simp⟩) (by assumption) ?_
                  try simp only [Act.put, List.setIfInBounds_toArray, List.set_cons_zero, List.set_cons_succ]
                  refine wpAnyH_take (i := 16) (oi := ⟨some 111, _, _, _, _, _⟩) (v := (.int .i64 z1)) rfl (by kernel_rfl) (by kernel_rfl) (by kernel_rfl) (fun _ _ _ h => h) (Or.inl ⟨by rfl, fun w hSw => by (try dsimp only at hSw); go_simp⟩) (by assumption) ?_
                  try simp only [Act.put, List.setIfInBounds_toArray, List.set_cons_zero, List.set_cons_succ]
                  refine wpAnyH_take (i := 17) (oi := ⟨some 112, _, _, _, _, _⟩) (v := (.int .i64 (n : Int))) rfl (by kernel_rfl) (by kernel_rfl) (by kernel_rfl) (fun _ _ _ h => h) (Or.inl ⟨by rfl, fun w hSw => by (try dsimp only at hSw); go_simp⟩) (by assumption) ?_
                  try simp only [Act.put, List.setIfInBounds_toArray, List.set_cons_zero, List.set_cons_succ]
                  refine wpAnyH_take (i := 18) (oi := ⟨some 113, _, _, _, _, _⟩) (v := (.bool false)) rfl (by kernel_rfl) (by kernel_rfl) (by kernel_rfl) (fun _ _ _ h => h) (Or.inl ⟨by rfl, fun w hSw => by (try dsimp only at hSw); go_simp⟩) (by assumption) ?_
                  try simp only [Act.put, List.setIfInBounds_toArray, List.set_cons_zero, List.set_cons_succ]
                  refine wpAnyH_take (i := 19) (oi := ⟨some 114, _, _, _, _, _⟩) (v := (.bool false)) rfl (by kernel_rfl) (by kernel_rfl) (by kernel_rfl) (fun _ _ _ h => h) (Or.inl ⟨by rfl, fun w hSw => by (try dsimp only at hSw); go_simp⟩) (by assumption) ?_
                  try simp only [Act.put, List.setIfInBounds_toArray, List.set_cons_zero, List.set_cons_succ]
                  refine wpAnyH_take (i := 20) (oi := ⟨some 115, _, _, _, _, _⟩) (v := (.bool false)) rfl (by kernel_rfl) (by kernel_rfl) (by kernel_rfl) (fun _ _ _ h => h) (Or.inl ⟨by rfl, fun w hSw => by (try dsimp only at hSw); go_simp⟩) (by assumption) ?_
                  try simp only [Act.put, List.setIfInBounds_toArray, List.set_cons_zero, List.set_cons_succ]
                  refine wpAnyH_take (i := 21) (oi := ⟨some 116, _, _, _, _, _⟩) (v := undef) rfl (by kernel_rfl) (by kernel_rfl) (by kernel_rfl) (fun _ _ _ h => h) (Or.inr ⟨by rfl, rfl⟩) (by assumption) ?_
                  try simp only [Act.put, List.setIfInBounds_toArray, List.set_cons_zero, List.set_cons_succ]
                  refine wpAnyH_take (i := 22) (oi := ⟨some 117, _, _, _, _, _⟩) (v := undef) rfl (by kernel_rfl) (by kernel_rfl) (by kernel_rfl) (fun _ _ _ h => h) (Or.inr ⟨by rfl, rfl⟩) (by assumption) ?_
                  try simp only [Act.put, List.setIfInBounds_toArray, List.set_cons_zero, List.set_cons_succ]
                  refine wpAnyH_take (i := 23) (oi := ⟨some 118, _, _, _, _, _⟩) (v := undef) rfl (by kernel_rfl) (by kernel_rfl) (by kernel_rfl) (fun _ _ _ h => h) (Or.inr ⟨by rfl, rfl⟩) (by assumption) ?_
                  try simp only [Act.put, List.setIfInBounds_toArray, List.set_cons_zero, List.set_cons_succ]
                  refine wpAnyH_take (i := 24) (oi := ⟨some 119, _, _, _, _, _⟩) (v := undef) rfl (by kernel_rfl) (by kernel_rfl) (by kernel_rfl) (fun _ _ _ h => h) (Or.inr ⟨by rfl, rfl⟩) (by assumption) ?_
                  try simp only [Act.put, List.setIfInBounds_toArray, List.set_cons_zero, List.set_cons_succ]
                  refine wpAnyH_take (i := 25) (oi := ⟨some 120, _, _, _, _, _⟩) (v := undef) rfl (by kernel_rfl) (by kernel_rfl) (by kernel_rfl) (fun _ _ _ h => h) (Or.inr ⟨by rfl, rfl⟩) (by assumption) ?_
                  try simp only [Act.put, List.setIfInBounds_toArray, List.set_cons_zero, List.set_cons_succ]
                  refine wpAnyH_take (i := 26) (oi := ⟨some 121, _, _, _, _, _⟩) (v := undef) rfl (by kernel_rfl) (by kernel_rfl) (by kernel_rfl) (fun _ _ _ h => h) (Or.inr ⟨by rfl, rfl⟩) (by assumption) ?_
                  try simp only [Act.put, List.setIfInBounds_toArray, List.set_cons_zero, List.set_cons_succ]
                  refine wpAnyH_take (i := 27) (oi := ⟨some 122, _, _, _, _, _⟩) (v := undef) rfl (by kernel_rfl) (by kernel_rfl) (by kernel_rfl) (fun _ _ _ h => h) (Or.inr ⟨by rfl, rfl⟩) (by assumption) ?_
                  try simp only [Act.put, List.setIfInBounds_toArray, List.set_cons_zero, List.set_cons_succ]
                  refine wpAnyH_take (i := 28) (oi := ⟨some 123, _, _, _, _, _⟩) (v := undef) rfl (by kernel_rfl) (by kernel_rfl) (by kernel_rfl) (fun _ _ _ h => h) (Or.inr ⟨by rfl, rfl⟩) (by assumption) ?_
                  try simp only [Act.put, List.setIfInBounds_toArray, List.set_cons_zero, List.set_cons_succ]
                  refine wpAnyH_take (i := 29) (oi := ⟨some 124, _, _, _, _, _⟩) (v := undef) rfl (by kernel_rfl) (by kernel_rfl) (by kernel_rfl) (fun _ _ _ h => h) (Or.inr ⟨by rfl, rfl⟩) (by assumption) ?_
                  try simp only [Act.put, List.setIfInBounds_toArray, List.set_cons_zero, List.set_cons_succ]
                  refine wpAnyH_take (i := 30) (oi := ⟨some 125, _, _, _, _, _⟩) (v := (.bool false)) rfl (by kernel_rfl) (by kernel_rfl) (by kernel_rfl) (fun _ _ _ h => h) (Or.inl ⟨by rfl, fun w hSw => by (try dsimp only at hSw); go_simp⟩) (by assumption) ?_
                  try simp only [Act.put, List.setIfInBounds_toArray, List.set_cons_zero, List.set_cons_succ]
                  refine wpAnyH_take (i := 31) (oi := ⟨some 126, _, _, _, _, _⟩) (v := (.bool false)) rfl (by kernel_rfl) (by kernel_rfl) (by kernel_rfl) (fun _ _ _ h => h) (Or.inl ⟨by rfl, fun w hSw => by (try dsimp only at hSw); go_simp⟩) (by assumption) ?_
                  try simp only [Act.put, List.setIfInBounds_toArray, List.set_cons_zero, List.set_cons_succ]
                  refine wpAnyH_take (i := 32) (oi := ⟨some 127, _, _, _, _, _⟩) (v := (.bool false)) rfl (by kernel_rfl) (by kernel_rfl) (by kernel_rfl) (fun _ _ _ h => h) (Or.inl ⟨by rfl, fun w hSw => by (try dsimp only at hSw); go_simp⟩) (by assumption) ?_
                  try simp only [Act.put, List.setIfInBounds_toArray, List.set_cons_zero, List.set_cons_succ]
                  refine wpAnyH_done (by kernel_rfl) ?_ _
                  go_wp2
                  go_roundg k1
                  case measure => omega
                  case rel => exact ⟨i + 1, _, _, _, _, by first | rw [hi1] | rfl, HI', X4⟩
            | succ k2 =>
              have v1 : decide (j < vm) = true := decide_eq_true (by have := HJ.out; omega)
              have HJ' : Aside0 (0 ≤ j + 1 ∧ j + 1 + k2 = vm) := ⟨by have := HJ.out; omega⟩
              have hj1 : wrap64 (j + 1) = j + 1 := i64w _ (by have := HJ.out; omega) (by have := HJ.out; have := R2.out; omega)
              go_wp2_with fail
              (with_reducible refine (bellbuoylaw21_part.calls z2 40 _ _ H2.out).mono ?_); rintro e w4 ⟨rfl, hd⟩
              have X4 := Aside0.mk (X3.out.below (Drawn0.below hd))
              have A4 := Aside0.mk (blk_below A3.out (Drawn0.below hd))
              clear hd X3 A3 q20 q21 q22
              obtain ⟨q20, q21, q22⟩ := act_cells' A4.out
              go_wp2_with fail
              (with_reducible refine (FTickL_calls lost base1 f g n b s p H1 LX TX _ X4.out.P X4.out.b1 N1.out HR.out X4.out.okP).mono ?_); rintro e w5 ⟨⟨v5, rfl⟩, hf, hc⟩
              have X5 := Aside0.mk (X4.out.pp hf (X4.out.okP.tick (fun j _ => WJ_nn b s p j) (right_of HR.out).1 TX lost) hc)
              have A5 := Aside0.mk (Fld.other X4.out.P hc A4.out (by decide) (by decide) (by decide))
              clear hf hc X4 A4 q20 q21 q22
              obtain ⟨q20, q21, q22⟩ := act_cells' A5.out
              go_wp2_with fail
              (with_reducible refine (RFTick_calls lost base2 fr gr n b s p HRN0 LX TX _ X5.out.R X5.out.b2 N1.out HR.out X5.out.okR).mono ?_); rintro e w6 ⟨⟨v6, rfl⟩, hf, hc⟩
              have X6 := Aside0.mk (X5.out.rr hf (X5.out.okR.tick (fun j _ => WJ_nn b s p j) (right_of HR.out).1 TX lost) hc)
              have A6 := Aside0.mk (RFld.other X5.out.R hc A5.out (by decide) (by decide) (by decide))
              clear hf hc X5 A5 q20 q21 q22
              go_wp2_with fail
              go_roundg k2
              case measure => omega
              case rel => exact ⟨j + 1, _, _, by first | rw [hj1] | rfl, HJ', X6, A6⟩
    · obtain ⟨t1, u1, u2⟩ : ∃ t1 : Bool, decide (i < (len : Int)) = t1 ∧ (t1 = true → decide (i < 60) = false) := ⟨_, rfl, fun q => decide_eq_false (fun q2 => t ⟨of_decide_eq_true q, q2⟩)⟩
      clear t
      have NEXT : Aside0 (t1 = true → decide (i < 60) = false) := ⟨u2⟩
      clear u2
      cases t1
      all_goals (try have u2 : decide (i < 60) = false := NEXT.out rfl)
      all_goals clear NEXT
      all_goals
        go_wp2_with fail
        (with_reducible refine (live_calls _).mono ?_); rintro e w5 ⟨rfl, hb⟩
        go_wp2_with fail
        go_ret
        exact ⟨rfl, below_step X1.out.B hb⟩
theorem RankField_walk (b s p n : Int) (A : Option Addr) (len cap : Nat) (w : World) (w0 : (Lit.int .i64 b).wf = true) (w1 : (Lit.int .i64 s).wf = true) (w2 : (Lit.int .i64 p).wf = true) (w3 : (Lit.int .i64 n).wf = true)
    (h : (A = none ∧ len = 0 ∧ cap = 0) ∨ ∃ x, A = some x ∧ len ≤ cap ∧ cap ≤ maxLen ∧ ∀ i, i < len → ∃ (z0 : Int) (z1 : Int) (z2 : Int), w.cell? (x.add (i * 3 + 0)) = some (.int .i64 z0) ∧ w.cell? (x.add (i * 3 + 1)) = some (.int .i64 z1) ∧ w.cell? (x.add (i * 3 + 2)) = some (.int .i64 z2) ∧ (Lit.int .i64 z0).wf = true ∧ (Lit.int .i64 z1).wf = true ∧ (Lit.int .i64 z2).wf = true) :
    Calls Try.prog 5 #[.agg #[.int .i64 b, .int .i64 s, .int .i64 p], .int .i64 n, .slice A len cap] w fun e w' => e = .returned (.bool true) ∧ Below w.heap.size w w' := by
  simp only [Lit.wf, Bool.and_eq_true, decide_eq_true_eq] at w3
  cases h1 : rightB b s p with
  | false => exact Field_no b s p n A len cap w (by rw [h1]; rfl) w3.1 w3.2
  | true =>
    by_cases h2 : 1 ≤ n ∧ n ≤ 32
    · obtain ⟨m, rfl⟩ : ∃ m : Nat, n = (m : Int) := ⟨n.toNat, (Int.toNat_of_nonneg (by omega)).symm⟩
      exact Field_yes b s p m A len cap w h1 (by omega) (by omega) (acts3_row h).1 (acts3_row h).2
    · exact Field_no b s p n A len cap w (by rw [h1, decide_eq_false h2]; rfl) w3.1 w3.2
end Go.Proofs.Ytcgkbbfnlbjblaa.P
