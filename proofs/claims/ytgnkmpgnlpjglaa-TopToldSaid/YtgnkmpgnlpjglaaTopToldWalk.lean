/- A master's time that is told by two words, as frames, is what the slave has then: the walk. Conditions: those that each lemma names. -/
import Derived.Test.YtgnkmpgnlpjglaaTopToldPlain
import Derived.Test.YtgnkmpgnlpjglaaTopHear
namespace Go.Proofs.Ytgnkmpgnlpjglaa.P
open Go.RowKit Go.Proofs.YtgnkmpgnlpjglaaW.PrintWords Go.Proofs.YtgnkmpgnlpjglaaW.PrintLast Go.Proofs.YtgnkmpgnlpjglaaW.PrintMore Go.Shelf
set_option linter.unusedVariables false
set_option linter.unusedSimpArgs false
theorem keep5_t {w W W' : World} {p mo mc so sc : Nat} {n d tu : Int} {S : AS} {vn va : Value} (h : Keep5 W W' p mo mc so sc) (hp : PA w W p mo mc so sc n d tu S vn va) {q t : Nat} {cs : Array Value} (hq : W.heap[q]? = some (.cells cs t (0, 0))) (t1 : t ≠ 108) (t2 : t ≠ 138) (t3 : t ≠ 98) : W'.heap[q]? = some (.cells cs t (0, 0)) :=
  (h.2 q (blk_lt hq) (blk_ne hq hp.pr t1) (blk_ne hq hp.om t2) (blk_ne hq hp.tm t3) (blk_ne hq hp.os t2) (blk_ne hq hp.ts t3)).trans hq
theorem PA.but {w W W' : World} {p mo mc so sc m : Nat} {n d tu : Int} {S : AS} {vn va : Value} {cs : Array Value} (h : PA w W p mo mc so sc n d tu S vn va) (hb : But1 W W' m) (hx : W.heap[m]? = some (.cells cs 111 (0, 0))) (hm : w.heap.size ≤ m) : PA w W' p mo mc so sc n d tu S vn va :=
  ⟨hb.get h.pr (blk_ne h.pr hx (by decide)), hb.get h.om (blk_ne h.om hx (by decide)), hb.get h.os (blk_ne h.os hx (by decide)), hb.get h.tm (blk_ne h.tm hx (by decide)), hb.get h.ts (blk_ne h.ts hx (by decide)),
    NoteIs.keep h.nn fun g cs hg => hb.get hg (blk_ne hg hx (by decide)), NoteIs.keep h.na fun g cs hg => hb.get hg (blk_ne hg hx (by decide)), h.B.trans (hb.B _ hm h.B.size), h.g, h.ne, h.ok⟩
/-- How all stands ahead of bit i. -/
structure TK (w W2 : World) (mb p mo mc so sc : Nat) (n d tu : Int) (S : AS) (vn va : Value) (i : Nat) (rd : Int) (W : World) : Prop where
  kc : W.heap[w.heap.size]? = some (.cells #[.int .i64 n, .int .i64 d, .int .i64 tu] 52 (0, 0))
  pa : PA W2 W p mo mc so sc n d tu S vn va
  x0 : i ≤ 20 → W.heap[mb]? = some (.cells #[.pointer none] 111 (0, 0))
  x1 : 20 < i → i ≤ 40 → ∃ b, W.heap[mb]? = some (.cells #[.pointer (some ⟨b, 0, none⟩)] 111 (0, 0)) ∧ W.heap[b]? = some (.cells #[.bool false, .int .i64 1, .int .i64 rd, .int .i64 0, .int .i64 20] 122 (0, 0))
  b2 : Below w.heap.size w W2
  ge : W2.heap.size ≤ mb
section
variable {w W2 W W' : World} {mb p mo mc so sc i : Nat} {n d tu rd : Int} {S S' : AS} {vn va vn' va' : Value}
theorem TK.B (h : TK w W2 mb p mo mc so sc n d tu S vn va i rd W) : Below w.heap.size w W := below_step h.b2 h.pa.B
theorem TK.below (h : TK w W2 mb p mo mc so sc n d tu S vn va i rd W) (hb : Below W.heap.size W W') : TK w W2 mb p mo mc so sc n d tu S vn va i rd W' :=
  ⟨blk_below h.kc hb, h.pa.below hb, fun h1 => blk_below (h.x0 h1) hb, fun h1 h2 => by obtain ⟨b, e1, e2⟩ := h.x1 h1 h2; exact ⟨b, blk_below e1 hb, blk_below e2 hb⟩, h.b2, h.ge⟩
theorem TK.k5 (h : TK w W2 mb p mo mc so sc n d tu S vn va i rd W) (k : Keep5 W W' p mo mc so sc) (pa' : PA W2 W' p mo mc so sc n d tu S' vn' va') : TK w W2 mb p mo mc so sc n d tu S' vn' va' i rd W' :=
  ⟨keep5_t k h.pa h.kc (by decide) (by decide) (by decide), pa', fun h1 => keep5_t k h.pa (h.x0 h1) (by decide) (by decide) (by decide), fun h1 h2 => by obtain ⟨b, e1, e2⟩ := h.x1 h1 h2; exact ⟨b, keep5_t k h.pa e1 (by decide) (by decide) (by decide), keep5_t k h.pa e2 (by decide) (by decide) (by decide)⟩, h.b2, h.ge⟩
theorem TK.next (h : TK w W2 mb p mo mc so sc n d tu S vn va i rd W) (h1 : i ≠ 20) (h2 : i ≠ 40) : TK w W2 mb p mo mc so sc n d tu S vn va (i + 1) rd W :=
  ⟨h.kc, h.pa, fun h3 => h.x0 (by omega), fun h3 h4 => h.x1 (by omega) (by omega), h.b2, h.ge⟩
theorem TK.heard (h : TK w W2 mb p mo mc so sc n d tu S vn va 20 rd W) {b : Nat} (h1 : W'.heap[mb]? = some (.cells #[.pointer (some ⟨b, 0, none⟩)] 111 (0, 0))) (h2 : W'.heap[b]? = some (.cells #[.bool false, .int .i64 1, .int .i64 rd, .int .i64 0, .int .i64 20] 122 (0, 0))) (hb : But1 W W' mb) : TK w W2 mb p mo mc so sc n d tu S vn va 21 rd W' :=
  ⟨hb.get h.kc (blk_ne h.kc (h.x0 (by omega)) (by decide)), h.pa.but hb (h.x0 (by omega)) h.ge, fun h3 => absurd h3 (by omega), fun _ _ => ⟨b, h1, h2⟩, h.b2, h.ge⟩
theorem TK.told (h : TK w W2 mb p mo mc so sc n d tu S vn va 40 rd W) (hb : But1 W W' mb) : TK w W2 mb p mo mc so sc n d tu S vn va 41 rd W' := by
  obtain ⟨b, hx, _⟩ := h.x1 (by omega) (by omega)
  exact ⟨hb.get h.kc (blk_ne h.kc hx (by decide)), h.pa.but hb hx h.ge, fun h3 => absurd h3 (by omega), fun h3 h4 => absurd h4 (by omega), h.b2, h.ge⟩
end
set_option maxHeartbeats 40000000 in
set_option maxRecDepth 100000 in
theorem Told_core (a0 a1 a2 n d tu : Int) (A1 A2 : Option Addr) (ms ss : List Int) (c1 c2 : Nat) (rd : Int) (w : World) (h1 : (Kd.int .u16).C w A1 ms.length ms) (h2 : (Kd.int .u16).C w A2 ss.length ss) (hc1 : ms.length ≤ c1) (hc2 : ss.length ≤ c2) (hm : ∀ x ∈ ms, 0 ≤ x ∧ x ≤ 65535) (hs : ∀ x ∈ ss, 0 ≤ x ∧ x ≤ 65535) (r0 : 0 ≤ rd) (r1 : rd < 65536) (hn : smN a0 = n) (hd : smD a0 a1 = d) (ht : smT a2 = tu) :
    Calls Try.prog 6 #[.agg #[.int .i64 a0, .int .i64 a1, .int .i64 a2], .agg #[.slice A1 ms.length c1, .slice A2 ss.length c2], .int .u16 rd] w fun e w' => e = .returned (.bool true) ∧ Below w.heap.size w w' := by
  have rg := sm_range a0 a1 a2
  rw [hn, hd, ht] at rg
  have hcfg := cfg_small rg.1 rg.2.1 rg.2.2.1 rg.2.2.2.1 rg.2.2.2.2.1 rg.2.2.2.2.2.1
  obtain ⟨A', hA'⟩ : ∃ A', slopeV n d tu = A' := ⟨_, rfl⟩
  rw [hA'] at hcfg
  have HC := Aside0.mk hcfg
  have HA' := Aside0.mk hA'
  have P0 := Aside0.mk (Ph.start n d tu A' rg.2.2.2.2.1)
  have hr := small_right n d tu rg.1 rg.2.1 rg.2.2.1 rg.2.2.2.1 rg.2.2.2.2.1 rg.2.2.2.2.2.1
  have HQ := Aside0.mk hr
  have RG : Aside0 (2 ≤ n ∧ n ≤ 5001 ∧ 0 ≤ d ∧ 2 * d < n ∧ 0 ≤ tu ∧ tu ≤ 4096) := ⟨by omega⟩
  have HW := Aside0.mk (start_within 0 (by omega) (by omega))
  have HS := Aside0.mk (fun w => Small_calls a0 a1 a2 w)
  rw [hn, hd, ht] at HS
  have H1 := Aside0.mk h1
  have H2 := Aside0.mk h2
  have HL := Aside0.mk (And.intro hc1 hc2)
  have HM := Aside0.mk hm
  have HSS := Aside0.mk hs
  have HR := Aside0.mk (And.intro r0 r1)
  clear h1 h2 hc1 hc2 hm hs r0 r1 rg hr hn hd ht hcfg hA'
  have hu52 := Try.underlying52
  have hu54 := Try.underlying54
  have X0 := Aside0.mk (blk_alloc (blk_new w (.cells #[.int .i64 a0, .int .i64 a1, .int .i64 a2] 52)) (.cells #[.slice A1 ms.length c1, .slice A2 ss.length c2] 54))
  have X1 := Aside0.mk (blk_new (w.alloc (.cells #[.int .i64 a0, .int .i64 a1, .int .i64 a2] 52)) (.cells #[.slice A1 ms.length c1, .slice A2 ss.length c2] 54))
  have B0 := Aside0.mk (below_alloc (below_alloc (Below.refl w.heap.size w) (.cells #[.int .i64 a0, .int .i64 a1, .int .i64 a2] 52)) (.cells #[.slice A1 ms.length c1, .slice A2 ss.length c2] 54))
  have hsz : (w.alloc (.cells #[.int .i64 a0, .int .i64 a1, .int .i64 a2] 52)).heap.size = w.heap.size + 1 := by simp
  rw [hsz] at X1
  clear hsz
  obtain ⟨c0, c1', c2'⟩ := cells3a X0.out
  have s0 := (blk_cell X1.out 0).trans rfl
  have s1 := (blk_cell X1.out 1).trans rfl
  go_enter Try.func6, Try.ntmps6
  go_wp2_with fail
  clear s0 s1 c0 c1' c2'
  generalize (w.alloc (.cells #[.int .i64 a0, .int .i64 a1, .int .i64 a2] 52)).alloc (.cells #[.slice A1 ms.length c1, .slice A2 ss.length c2] 54) = W0 at X0 X1 B0 ⊢
  have s0 : W0.cell? ⟨w.heap.size + 1, 0, none⟩ = some (.slice A1 ms.length c1) := (blk_cell X1.out 0).trans rfl
  have s1 : W0.cell? ⟨w.heap.size + 1, 1, none⟩ = some (.slice A2 ss.length c2) := (blk_cell X1.out 1).trans rfl
  go_region_held3 (fun w' => w'.cell? ⟨w.heap.size + 1, 0, none⟩ = some (.slice A1 ms.length c1) ∧ w'.cell? ⟨w.heap.size + 1, 1, none⟩ = some (.slice A2 ss.length c2)) (go_keep) (fail)
  have Xa := Aside0.mk (blk_drew X0.out)
  have Ba := Aside0.mk (below_drew1 B0.out)
  clear X0 X1 B0 s0 s1
  generalize W0.drew = Wa at Xa Ba ⊢
  obtain ⟨e0, e1, e2⟩ := cells3a Xa.out
  go_wp2_with fail
  (with_reducible refine (HS.out _).mono ?_)
  rintro e w1 ⟨rfl, hb⟩
  have X1 := Aside0.mk (blk_below Xa.out hb)
  have B1 := Aside0.mk (below_step Ba.out hb)
  clear hb Xa Ba e0 e1 e2 HS
  obtain ⟨e0, e1, e2⟩ := cells3a X1.out
  obtain ⟨f0, f1, f2⟩ := cells3f X1.out
  have BS : Aside0 (Below w.heap.size w (((w1.setCell ⟨w.heap.size, 0, none⟩ (.int .i64 n)).setCell ⟨w.heap.size, 1, none⟩ (.int .i64 d)).setCell ⟨w.heap.size, 2, none⟩ (.int .i64 tu))) := ⟨((B1.out.setCell (p := ⟨w.heap.size, 0, none⟩) (Nat.le_refl _) _).setCell (p := ⟨w.heap.size, 1, none⟩) (Nat.le_refl _) _).setCell (p := ⟨w.heap.size, 2, none⟩) (Nat.le_refl _) _⟩
  have CX : Aside0 ((((w1.setCell ⟨w.heap.size, 0, none⟩ (.int .i64 n)).setCell ⟨w.heap.size, 1, none⟩ (.int .i64 d)).setCell ⟨w.heap.size, 2, none⟩ (.int .i64 tu)).heap[w.heap.size]? = some (.cells #[.int .i64 n, .int .i64 d, .int .i64 tu] 52 (0, 0))) := ⟨blk_put (blk_put (blk_put X1.out 0 _ rfl) 1 _ rfl) 2 _ rfl⟩
  go_wp2_with fail
  (with_reducible refine (PNew_yes n d tu 0 _ HQ.out.2 HQ.out.1 HW.out (by decide) (by decide)).mono ?_)
  clear B1 X1 e0 e1 e2 f0 f1 f2
  generalize (((w1.setCell ⟨w.heap.size, 0, none⟩ (.int .i64 n)).setCell ⟨w.heap.size, 1, none⟩ (.int .i64 d)).setCell ⟨w.heap.size, 2, none⟩ (.int .i64 tu)) = W1 at *
  rintro e w2 ⟨p, mo, mc, so, sc, rfl, hp⟩
  have K1 := Aside0.mk hp
  have KC := Aside0.mk (blk_below CX.out hp.B)
  clear hp CX
  go_wp2_with fail
  (with_reducible refine (SNew_calls _).mono ?_)
  rintro e w3 ⟨rfl, rfl⟩
  have T0 : Aside0 (TK w W1 w2.heap.size p mo mc so sc n d tu (S0 0) (.pointer none) (.pointer none) 0 rd (w2.alloc (.cells #[.pointer none] 111))) :=
    ⟨⟨blk_alloc KC.out _, K1.out.alloc _, fun _ => blk_new _ _, fun h => absurd h (by omega), BS.out, K1.out.B.size⟩⟩
  clear K1 KC BS
  generalize w2.alloc (.cells #[.pointer none] 111) = w3 at T0 ⊢
  generalize w2.heap.size = mb at T0 ⊢
  go_wp2
  go_loopg [12, 13] 61 (fun kq v12 v13 w' => ∃ (i : Nat) (S : AS) (vn va : Value) (nn : Int), v12 = .int .i64 nn ∧ v13 = .int .i64 (i : Int) ∧ Aside0 (i ≤ 60 ∧ i + kq = 61) ∧ Aside0 (TK w W1 mb p mo mc so sc n d tu S vn va i rd w') ∧ Aside0 (Ph n d tu A' i (i : Int) nn S))
  case atStart => exact ⟨0, S0 0, _, _, 0, rfl, rfl, ⟨by omega⟩, T0, P0⟩
  case round =>
    clear T0 P0
    obtain ⟨i, S, vn, va, nn, rfl, rfl, HI, T, P⟩ := hrel
    by_cases hlt : i < 60
    · have u1 : decide ((i : Int) < 60) = true := decide_eq_true (by omega)
      have u1b : decide (i < 60) = true := decide_eq_true hlt
      obtain ⟨k1, rfl⟩ : ∃ k1, gk = k1 + 1 := ⟨gk - 1, by have := HI.out; omega⟩
      have ki : wrap64 ((i : Int) + 1) = ((i + 1 : Nat) : Int) := by rw [wr64 _ (by omega) (by omega)]; rfl
      have LT := Aside0.mk hlt
      have i0 : (0 : Int) ≤ (i : Int) := by omega
      have TX := Aside0.mk (ticks_eq RG.out.1 RG.out.2.1 RG.out.2.2.1 RG.out.2.2.2.1 ms HM.out (i : Int) i0 (tu := tu))
      have TY := Aside0.mk (ticks_eq RG.out.1 RG.out.2.1 RG.out.2.2.1 RG.out.2.2.2.1 ss HSS.out (i : Int) i0 (tu := tu))
      have rx := tick_rng (n := n) RG.out.2.2.1 ms HM.out (i : Int) i0
      have ry := tick_rng (n := n) RG.out.2.2.1 ss HSS.out (i : Int) i0
      generalize tickV n d ms (i : Int) = x at TX rx
      generalize tickV n d ss (i : Int) = y at TY ry
      have CX : Aside0 (∀ W, Below w.heap.size w W → Calls Try.prog 24 #[.agg #[.int .i64 n, .int .i64 d, .int .i64 tu], .slice A1 ms.length c1, .int .i64 (i : Int)] W fun e w' => e = .returned (.int .i64 x) ∧ Below W.heap.size W w') := ⟨fun W hB => bellbuoytop_ticks.calls n d tu A1 c1 ms (i : Int) x W (Kd.C_below H1.out hB) HL.out.1 TX.out⟩
      have CY : Aside0 (∀ W, Below w.heap.size w W → Calls Try.prog 24 #[.agg #[.int .i64 n, .int .i64 d, .int .i64 tu], .slice A2 ss.length c2, .int .i64 (i : Int)] W fun e w' => e = .returned (.int .i64 y) ∧ Below W.heap.size W w') := ⟨fun W hB => bellbuoytop_ticks.calls n d tu A2 c2 ss (i : Int) y W (Kd.C_below H2.out hB) HL.out.2 TY.out⟩
      obtain ⟨S1, st1, ph1⟩ := P.out.step HC.out.1 x y rx.1 rx.2 ry.1 ry.2 hlt T.out.pa.ok.ls
      have ST := Aside0.mk st1
      have P1 := Aside0.mk ph1
      clear hlt TX TY rx ry st1 ph1 P i0
      obtain ⟨e0, e1, e2⟩ := cells3a T.out.kc
      go_wp2
      go_region_held3 (fun w' => w'.cell? ⟨w.heap.size, 0, none⟩ = some (.int .i64 n) ∧ w'.cell? ⟨w.heap.size, 1, none⟩ = some (.int .i64 d) ∧ w'.cell? ⟨w.heap.size, 2, none⟩ = some (.int .i64 tu)) (go_keep)
        (first
          | (go_at_call 24; (with_reducible refine (CX.out _ (by first | exact T.out.B | exact below_drew1 T.out.B)).mono ?_); rintro e w5 ⟨rfl, hb⟩; have nT := Aside0.mk (T.out.below (show Below wr.heap.size wr w5 by first | exact hb | exact below_step (below_drew1 (Below.refl _ _)) hb)); clear hb T CX e0 e1 e2; have T := nT; clear nT; obtain ⟨e0, e1, e2⟩ := cells3a T.out.kc)
          | (go_at_call 24; (with_reducible refine (CY.out _ (by first | exact T.out.B | exact below_drew1 T.out.B)).mono ?_); rintro e w6 ⟨rfl, hb⟩; have nT := Aside0.mk (T.out.below (show Below w5.heap.size w5 w6 by first | exact hb | exact below_step (below_drew1 (Below.refl _ _)) hb)); clear hb T CY e0 e1 e2; have T := nT; clear nT; obtain ⟨e0, e1, e2⟩ := cells3a T.out.kc))
      clear e0 e1 e2
      go_wp2_with fail
      (with_reducible refine (PStep W1 _ p mo mc so sc n d tu S vn va x y 0 S1 T.out.pa (by have := RG.out; omega) (by have := RG.out; omega) ST.out).mono ?_)
      rintro e w7 ⟨rfl, hpa, hk⟩
      have T1 := Aside0.mk (T.out.k5 hk hpa)
      clear hpa hk T ST
      by_cases i20 : i = 20
      · subst i20
        have v1 : (((20 : Nat) : Int) == 20) = true := rfl
        obtain ⟨d0, d1, h2⟩ := len_list (byteL_len rd 2)
        have HB := Aside0.mk h2
        have hrw : wrap64 rd = rd := wr64 _ (by have := HR.out; omega) (by have := HR.out; omega)
        clear h2
        go_wp2_with fail
        rw [hrw]
        (with_reducible refine (Frame2 rd HR.out.1 HR.out.2 d0 d1 HB.out _).mono ?_)
        rintro e w8 ⟨rfl, hb⟩
        have T2 := Aside0.mk (T1.out.below hb)
        clear hb T1 hrw
        go_wp2_with fail
        (with_reducible refine (Of2 rd HR.out.1 HR.out.2 d0 d1 HB.out _).mono ?_)
        rintro e w9 ⟨rfl, hb⟩
        have T3 := Aside0.mk ((T2.out.below (below_alloc (Below.refl _ _) _)).below hb)
        clear hb T2 HB
        have KW := Aside0.mk (blk_new w9 (.cells #[.bool false, .int .i64 1, .int .i64 rd, .int .i64 0] 71))
        have T4 := Aside0.mk (T3.out.below (below_alloc (Below.refl w9.heap.size w9) (.cells #[.bool false, .int .i64 1, .int .i64 rd, .int .i64 0] 71)))
        clear T3
        have p1 : Ph n d tu A' 20 21 nn S1 := P1.out
        obtain ⟨S2, cp, ph2⟩ := p1.capt HC.out.1
        have CP := Aside0.mk cp
        have P2 := Aside0.mk ph2
        clear cp ph2 p1 P1
        go_wp2_with fail
        (with_reducible refine (PCapture W1 _ p mo mc so sc n d tu S1 vn va true S2 T4.out.pa CP.out).mono ?_)
        rintro e w11 ⟨rfl, vn2, hpa, hk⟩
        have T5 := Aside0.mk (T4.out.k5 hk hpa)
        have KW5 := Aside0.mk (keep5_t hk T4.out.pa KW.out (by decide) (by decide) (by decide))
        clear hpa hk T4 KW CP
        obtain ⟨g0, g1, g2, g3⟩ := wcells4 KW5.out
        go_wp2_with fail
        (with_reducible refine (Hear_turn mb rd 20 HR.out.1 HR.out.2 _ (T5.out.x0 (Nat.le_refl _))).mono ?_)
        rintro e w12 ⟨⟨v, rfl⟩, b, q1, q2, q3, q4⟩
        have TN := Aside0.mk (T5.out.heard q1 q2 q4)
        clear q1 q2 q3 q4 T5 KW5 g0 g1 g2 g3
        have v2 : (((20 : Nat) : Int) == 40) = false := rfl
        go_wp2
        go_roundg k1
        case rel => exact ⟨20 + 1, S2, vn2, va, nn, rfl, by first | rfl | rw [ki], ⟨by have := HI.out; have := LT.out; omega⟩, TN, P2⟩
        case measure => omega
      · by_cases i40 : i = 40
        · subst i40
          have v1 : (((40 : Nat) : Int) == 20) = false := rfl
          have v2 : (((40 : Nat) : Int) == 40) = true := rfl
          have p1 : Ph n d tu A' 40 41 nn S1 := P1.out
          have LM := Aside0.mk (p1.lm (by omega))
          obtain ⟨hn0, S2, ap, slm, ph2⟩ := p1.appl HC.out.1
          subst hn0
          have AP := Aside0.mk ap
          have P2 := Aside0.mk ph2
          clear ap ph2 p1 P1 slm i20
          obtain ⟨d0, d1, h2⟩ := len_list (byteL_len rd 2)
          obtain ⟨d2, d3, d4, d5, d6, d7, h6⟩ := len6 (byteL_len S1.lm 6)
          have HB := Aside0.mk (And.intro h2 h6)
          have hrw : wrap64 rd = rd := wr64 _ (by have := HR.out; omega) (by have := HR.out; omega)
          clear h2 h6
          go_wp2_with fail
          (with_reducible refine (PMaster W1 _ p mo mc so sc n d tu S1 vn va T1.out.pa).mono ?_)
          rintro e w8 ⟨rfl, rfl⟩
          go_wp2_with fail
          (try rw [hrw])
          (with_reducible refine (Frame8 rd S1.lm HR.out.1 HR.out.2 LM.out.1 LM.out.2 d0 d1 d2 d3 d4 d5 d6 d7 HB.out.1 HB.out.2 _).mono ?_)
          rintro e w8 ⟨rfl, hb⟩
          have T2 := Aside0.mk (T1.out.below hb)
          clear hb T1 hrw
          go_wp2_with fail
          (with_reducible refine (Of8 rd S1.lm HR.out.1 HR.out.2 LM.out.1 LM.out.2 d0 d1 d2 d3 d4 d5 d6 d7 HB.out.1 HB.out.2 _).mono ?_)
          rintro e w9 ⟨rfl, hb⟩
          have T3 := Aside0.mk ((T2.out.below (below_alloc (Below.refl _ _) _)).below hb)
          clear hb T2 HB
          have KW := Aside0.mk (blk_new w9 (.cells #[.bool true, .int .i64 1, .int .i64 rd, .int .i64 S1.lm] 71))
          have T4 := Aside0.mk (T3.out.below (below_alloc (Below.refl w9.heap.size w9) (.cells #[.bool true, .int .i64 1, .int .i64 rd, .int .i64 S1.lm] 71)))
          clear T3
          obtain ⟨b, x1, x2⟩ := T4.out.x1 (by omega) (Nat.le_refl _)
          have X1 := Aside0.mk x1
          have X2 := Aside0.mk x2
          obtain ⟨g0, g1, g2, g3⟩ := wcells4 KW.out
          clear x1 x2 KW
          go_wp2_with fail
          (with_reducible refine (Hear_follow mb b rd S1.lm 20 40 HR.out.1 HR.out.2 LM.out.1 LM.out.2 _ X1.out X2.out).mono ?_)
          rintro e w10 ⟨rfl, hbut⟩
          have T5 := Aside0.mk (T4.out.told hbut)
          clear hbut T4 X1 X2 g0 g1 g2 g3
          have v4 : (S1.lm != S1.lm) = false := by simp
          go_wp2_with fail
          (with_reducible refine (PMaster W1 _ p mo mc so sc n d tu S1 vn va T5.out.pa).mono ?_)
          rintro e w11 ⟨rfl, rfl⟩
          go_wp2_with fail
          (with_reducible refine (PApply W1 _ p mo mc so sc n d tu S1 vn va 1048576 0 S2 T5.out.pa RG.out.2.2.2.2.1 RG.out.2.2.2.2.2 AP.out).mono ?_)
          rintro e w12 ⟨rfl, vn2, va2, hpa, hk⟩
          have TN := Aside0.mk (T5.out.k5 hk hpa)
          clear hpa hk T5 AP v4
          go_wp2
          go_roundg k1
          case rel => exact ⟨40 + 1, S2, vn2, va2, 1, rfl, by first | rfl | rw [ki], ⟨by have := HI.out; have := LT.out; omega⟩, TN, P2⟩
          case measure => omega
        · have v1 : ((i : Int) == 20) = false := by rw [beq_eq_false_iff_ne]; omega
          have v2 : ((i : Int) == 40) = false := by rw [beq_eq_false_iff_ne]; omega
          have TN := Aside0.mk (T1.out.next i20 i40)
          have PN := Aside0.mk (P1.out.plain i20 i40)
          clear i20 i40 T1 P1
          go_wp2
          go_roundg k1
          case rel => exact ⟨i + 1, S1, vn, va, nn, rfl, by first | rfl | rw [ki], ⟨by have := HI.out; have := LT.out; omega⟩, TN, PN⟩
          case measure => omega
    · have i60 : i = 60 := by have := HI.out; omega
      subst i60
      have u1 : decide (((60 : Nat) : Int) < 60) = false := rfl
      clear hlt
      obtain ⟨rfl, m, s, hap⟩ := P.out.hi (by omega)
      have hb60 : S.bits = 60 := P.out.bits
      have HG : Aside0 (gapS S = 39) := ⟨by
        unfold gapS
        rw [hap]
        show wrap64 (S.bits - 21) = 39
        rw [hb60]
        exact wr64 _ (by decide) (by decide)⟩
      have FO := Aside0.mk P.out.fo
      have olm := T.out.pa.ok.lm
      have ols := T.out.pa.ok.ls
      obtain ⟨dd, od, hdd⟩ : ∃ dd od, fit64 (absd S.lm S.ls) = (dd, od) := ⟨_, _, rfl⟩
      have HDD := Aside0.mk hdd
      have DF : Aside0 (exact_Dist.f S.lm S.ls = some (dd, od)) := ⟨by rw [Dist_eq S.lm S.ls (by unfold In64 at olm; omega) (by unfold In64 at olm; omega) (by unfold In64 at ols; omega) (by unfold In64 at ols; omega), hdd]⟩
      have BF : Aside0 (accord_Bound.f 201 n d tu 40 = some (A' * 40 + 4, true)) := ⟨by
        rw [accBound_eq n d tu 40 (by have := RG.out; omega) (by have := RG.out; omega) 200]
        unfold boundV
        rw [if_pos ⟨HC.out.2, by decide, by decide⟩, HA'.out]⟩
      clear P hap hb60 olm ols hdd
      go_wp2_with fail
      (with_reducible refine (PMaster W1 _ p mo mc so sc n d tu S vn va T.out.pa).mono ?_)
      rintro e w7 ⟨rfl, rfl⟩
      go_wp2_with fail
      (with_reducible refine (PSlave W1 _ p mo mc so sc n d tu S vn va T.out.pa).mono ?_)
      rintro e w7 ⟨rfl, rfl⟩
      go_wp2_with fail
      (with_reducible refine (exact_Dist.calls S.lm S.ls dd od _ DF.out).mono ?_)
      rintro e w7 ⟨rfl, hb⟩
      have T2 := Aside0.mk (T.out.below hb)
      clear hb T DF
      obtain ⟨e0, e1, e2⟩ := cells3a T2.out.kc
      go_wp2_with fail
      (with_reducible refine (accord_Bound.calls 201 n d tu 40 (A' * 40 + 4) true _ BF.out).mono ?_)
      rintro e w8 ⟨rfl, hb⟩
      have T3 := Aside0.mk (T2.out.below hb)
      clear hb T2 BF e0 e1 e2
      go_wp2_with fail
      (with_reducible refine (PGap W1 _ p mo mc so sc n d tu S vn va T3.out.pa).mono ?_)
      rintro e w9 ⟨rfl, hb⟩
      rw [HG.out]
      have T4 := Aside0.mk (T3.out.below hb)
      clear hb T3
      go_wp2_with fail
      (with_reducible refine (PSettled W1 _ p mo mc so sc n d tu S vn va T4.out.pa).mono ?_)
      rintro e w10 ⟨rfl, rfl⟩
      cases hf : S.follows with
      | true =>
        have hle : dd ≤ A' * 40 + 4 := by
          have h1 := FO.out hf
          have h2 := HDD.out
          have h3 := HC.out.1.A0
          unfold fit64 at h2
          split at h2 <;> (simp only [Prod.mk.injEq] at h2; omega)
        have hdec : decide (dd ≤ A' * 40 + 4) = true := decide_eq_true hle
        clear hle hf
        go_wp2
        go_ret
        exact ⟨rfl, T4.out.B⟩
      | false =>
        clear hf
        go_wp2
        go_ret
        exact ⟨rfl, T4.out.B⟩
theorem TopTold_walk (a0_0 a0_1 a0_2 : Int) (a1_0 : Option Addr) (len1_0 cap1_0 : Nat) (z1_0 : List Int) (a1_1 : Option Addr) (len1_1 cap1_1 : Nat) (z1_1 : List Int) (a2 : Int) (w : World) (w0_0 : (Lit.int .i64 a0_0).wf = true) (w0_1 : (Lit.int .i64 a0_1).wf = true) (w0_2 : (Lit.int .i64 a0_2).wf = true)
    (w1_0 : (a1_0 = none ∧ len1_0 = 0 ∧ cap1_0 = 0 ∧ z1_0 = []) ∨ ∃ x, a1_0 = some x ∧ len1_0 ≤ cap1_0 ∧ cap1_0 ≤ maxLen ∧ z1_0.length = cap1_0 ∧ (∀ i, i < z1_0.length → w.cell? (x.add i) = some (.int .u16 (z1_0.getD i 0))) ∧ ∀ n ∈ z1_0, (Lit.int .u16 n).wf = true)
    (w1_1 : (a1_1 = none ∧ len1_1 = 0 ∧ cap1_1 = 0 ∧ z1_1 = []) ∨ ∃ x, a1_1 = some x ∧ len1_1 ≤ cap1_1 ∧ cap1_1 ≤ maxLen ∧ z1_1.length = cap1_1 ∧ (∀ i, i < z1_1.length → w.cell? (x.add i) = some (.int .u16 (z1_1.getD i 0))) ∧ ∀ n ∈ z1_1, (Lit.int .u16 n).wf = true)
    (w2 : (Lit.int .u16 a2).wf = true) :
    Calls Try.prog 6 #[.agg #[.int .i64 a0_0, .int .i64 a0_1, .int .i64 a0_2], .agg #[.slice a1_0 len1_0 cap1_0, .slice a1_1 len1_1 cap1_1], .int .u16 a2] w fun e w' => e = .returned (.bool true) ∧ Below w.heap.size w w' := by
  obtain ⟨ms, rfl, hr1, hm1, hw1, hc1⟩ := ReadsInt.ofRowC w1_0
  obtain ⟨ss, rfl, hr2, hm2, hw2, hc2⟩ := ReadsInt.ofRowC w1_1
  have hM : (Kd.int .u16).C w a1_0 ms.length ms := Kd.C_of_reads (d := (0 : Int)) (h1 := fun _ => rfl) hr1
  have hS : (Kd.int .u16).C w a1_1 ss.length ss := Kd.C_of_reads (d := (0 : Int)) (h1 := fun _ => rfl) hr2
  have hMi : ∀ x ∈ ms, 0 ≤ x ∧ x ≤ 65535 := fun x hx => by
    have := hw1 x hx
    simp only [Lit.wf, Bool.and_eq_true, decide_eq_true_eq] at this
    exact this
  have hSi : ∀ x ∈ ss, 0 ≤ x ∧ x ≤ 65535 := fun x hx => by
    have := hw2 x hx
    simp only [Lit.wf, Bool.and_eq_true, decide_eq_true_eq] at this
    exact this
  have hR : 0 ≤ a2 ∧ a2 ≤ 65535 := by
    simp only [Lit.wf, Bool.and_eq_true, decide_eq_true_eq] at w2
    exact w2
  exact Told_core a0_0 a0_1 a0_2 _ _ _ a1_0 a1_1 ms ss cap1_0 cap1_1 a2 w hM hS hc1 hc2 hMi hSi hR.1 (by omega) rfl rfl rfl
end Go.Proofs.Ytgnkmpgnlpjglaa.P
