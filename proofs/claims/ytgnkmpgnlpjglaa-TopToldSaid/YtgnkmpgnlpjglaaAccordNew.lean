/- A new pair, walked by hand. Conditions: each lemma names them. -/
import Derived.Test.YtgnkmpgnlpjglaaAccordCap
namespace Go.Proofs.Ytgnkmpgnlpjglaa.P
open Go.RowKit Go.Proofs.YtgnkmpgnlpjglaaW.PrintWords Go.Proofs.YtgnkmpgnlpjglaaW.PrintLast Go.Proofs.YtgnkmpgnlpjglaaW.PrintMore
set_option linter.unusedVariables false
set_option linter.unusedSimpArgs false
/-- A new side: its oscillator has counted nothing, its clock goes as the count. -/
def MadeIs (n d : Int) (w : World) (e : Ending) (w' : World) : Prop :=
  ∃ mo mc, w.heap.size ≤ mo ∧ w.heap.size ≤ mc ∧ e = .returned (.agg #[.pointer (some ⟨mo, 0, none⟩), .pointer (some ⟨mc, 0, none⟩)]) ∧ OscIs w' mo n d 0 false ∧ At4 98 w' mc 0 0 1048576 0 ∧ Below w.heap.size w w'
theorem OscIs.below {w w1 : World} {g : Nat} {n d c : Int} {wl : Bool} (h : OscIs w g n d c wl) (hb : Below w.heap.size w w1) : OscIs w1 g n d c wl := blk_below h hb
set_option maxHeartbeats 2000000 in
set_option maxRecDepth 100000 in
theorem made_calls (n d tu : Int) (w : World) (h : osc_Right.f n d = some true) : Calls Try.prog 54 #[.agg #[.int .i64 n, .int .i64 d, .int .i64 tu]] w (MadeIs n d w) := by
  have H := Aside0.mk h
  clear h
  have hu23 := Try.underlying50
  have hu25 := Try.underlying52
  have hu66 := Try.underlying104
  have X0 := Aside0.mk (blk_alloc (blk_new w (.cells #[.int .i64 n, .int .i64 d, .int .i64 tu] 52)) (.cells #[.pointer none, .pointer none] 104))
  have X1 := Aside0.mk (blk_new (w.alloc (.cells #[.int .i64 n, .int .i64 d, .int .i64 tu] 52)) (.cells #[.pointer none, .pointer none] 104))
  have B0 := Aside0.mk (below_alloc (below_alloc (Below.refl w.heap.size w) (.cells #[.int .i64 n, .int .i64 d, .int .i64 tu] 52)) (.cells #[.pointer none, .pointer none] 104))
  go_enter Try.func54, Try.ntmps54
  go_wp2_with fail
  (with_reducible refine (New_yes n d _ H.out).mono ?_); rintro e w1 ⟨g, hg, rfl, hI, hb⟩
  have HG : Aside0 (w.heap.size ≤ g) := ⟨Nat.le_trans B0.out.size hg⟩
  have HI := Aside0.mk (show OscIs w1 g n d 0 false from hI)
  have Y1 := Aside0.mk (blk_below X1.out hb)
  have B1 := Aside0.mk (below_step B0.out hb)
  clear hg hI hb
  go_wp2_with fail
  (with_reducible refine (ClkNew_calls _).mono ?_); rintro e w2 ⟨q, hq, rfl, hc, hb⟩
  have HQ : Aside0 (w.heap.size ≤ q) := ⟨Nat.le_trans B1.out.size hq⟩
  have HC := Aside0.mk hc
  have HI2 := Aside0.mk (show OscIs w2 g n d 0 false from blk_below HI.out hb)
  have Y2 := blk_below Y1.out hb
  have B2 := Aside0.mk (below_step B1.out hb)
  have hsz : (w.alloc (.cells #[.int .i64 n, .int .i64 d, .int .i64 tu] 52)).heap.size = w.heap.size + 1 := by simp
  rw [hsz] at Y2
  have Z2 := Aside0.mk Y2
  clear hq hc hb Y1 Y2 X0 X1 B0 B1 HI
  obtain ⟨f0, f1⟩ : w2.frozen? ⟨w.heap.size + 1, 0, none⟩ = false ∧ w2.frozen? ⟨w.heap.size + 1, 1, none⟩ = false := ⟨blk_frozen Z2.out 0, blk_frozen Z2.out 1⟩
  obtain ⟨c0, c1⟩ := cells2a Z2.out
  go_wp2_with fail
  (try simp only [Exit.jump])
  refine bodyPost_ret (results_single rfl (.cell (w.heap.size + 1) 104 #[.pointer (some ⟨g, 0, none⟩), .pointer (some ⟨q, 0, none⟩)] (0, 0) _ rfl (blk_put (blk_put Z2.out 0 _ rfl) 1 _ rfl) Try.underlying104 rfl (by kernel_rfl) .nil)) rfl ?_
  refine ⟨g, q, HG.out, HQ.out, rfl, blk_far (blk_far HI2.out (ne_type HI2.out Z2.out (by decide)) _) (ne_type HI2.out Z2.out (by decide)) _, blk_far (blk_far HC.out (ne_type HC.out Z2.out (by decide)) _) (ne_type HC.out Z2.out (by decide)) _, below_set (below_set B2.out (by omega)) (by omega)⟩
theorem cells3a {w : World} {g : Nat} {a b c : Value} {t : TypeId} (h : w.heap[g]? = some (.cells #[a, b, c] t (0, 0))) :
    w.cell? ⟨g, 0, none⟩ = some a ∧ w.cell? ⟨g, 1, none⟩ = some b ∧ w.cell? ⟨g, 2, none⟩ = some c :=
  ⟨(blk_cell h 0).trans rfl, (blk_cell h 1).trans rfl, (blk_cell h 2).trans rfl⟩
/-- How a new pair stands. -/
def S0 (start : Int) : AS := ⟨0, false, 0, false, 0, 0, 1048576, 0, 0, start, 1048576, start, 0, none, none, false⟩
theorem look0 : lookV 0 0 1048576 0 = (0, true) := by decide +kernel
theorem on0 (s : Int) (h0 : 0 ≤ s) (h1 : s ≤ 1125899906842624) : onV 0 0 1048576 0 s 1048576 = (0, 0, s, 1048576) := by
  unfold onV
  rw [look0, if_pos ⟨rfl, by unfold wi; rw [decide_eq_true_eq]; simp only []; omega⟩]
  simp only [Int.zero_add]
theorem look_s (s : Int) (h0 : 0 ≤ s) (h1 : s ≤ 1125899906842624) : lookV 0 s 1048576 0 = (s, true) := by
  unfold lookV In64 wi
  rw [show ((0 : Int) - 0) * 1048576 / 1048576 = 0 by rfl, Int.zero_add, if_pos ⟨by omega, by omega, decide_eq_true (by omega)⟩]
theorem read_s (s : Int) (h0 : 0 ≤ s) : readV 0 s true = s := by
  unfold readV
  by_cases c : 0 < s
  · rw [decide_eq_true c]; rfl
  · rw [decide_eq_false c]
    show (0 : Int) = s
    omega
set_option maxHeartbeats 4000000 in
set_option maxRecDepth 100000 in
theorem PNew_yes (n d tu start : Int) (w : World) (h : accord_Right.f n d tu = some true) (ho : osc_Right.f n d = some true) (hw : accord_within.f start 1125899906842624 = some true) (s0 : 0 ≤ start) (s1 : start ≤ 1125899906842624) :
    Calls Try.prog 22 #[.agg #[.int .i64 n, .int .i64 d, .int .i64 tu], .int .i64 start] w fun e w' => ∃ p mo mc so sc, e = .returned (.tuple #[.pointer (some ⟨p, 0, none⟩), .int .i64 0]) ∧ PA w w' p mo mc so sc n d tu (S0 start) (.pointer none) (.pointer none) := by
  have H := Aside0.mk h
  have HO := Aside0.mk ho
  have HW := Aside0.mk hw
  have L1 := Aside0.mk (on0 start s0 s1)
  have L2 := Aside0.mk (look_s start s0 s1)
  have L3 := Aside0.mk (read_s start s0)
  have I0 : Aside0 (In64 0 ∧ In64 1048576 ∧ In64 start) := ⟨by decide, by decide, by unfold In64; omega⟩
  clear h ho hw s0 s1
  have hu25 := Try.underlying52
  have hu66 := Try.underlying104
  have hu70 := Try.underlying108
  have X0 := Aside0.mk (blk_new w (.cells #[.int .i64 n, .int .i64 d, .int .i64 tu] 52))
  have B0 := Aside0.mk (below_alloc (Below.refl w.heap.size w) (.cells #[.int .i64 n, .int .i64 d, .int .i64 tu] 52))
  obtain ⟨c0, c1, c2⟩ := cells3a X0.out
  go_enter Try.func22, Try.ntmps22
  go_wp2_with fail
  (with_reducible refine (accord_Right.calls n d tu true _ H.out).mono ?_); rintro e w1 ⟨rfl, hb⟩
  have X1 := Aside0.mk (blk_below X0.out hb)
  have B1 := Aside0.mk (below_step B0.out hb)
  clear hb X0 B0 c0 c1 c2
  go_wp2_with fail
  (with_reducible refine (accord_within.calls start 1125899906842624 true _ HW.out).mono ?_); rintro e w2 ⟨rfl, hb⟩
  have X2 := Aside0.mk (blk_below X1.out hb)
  have B2 := Aside0.mk (below_step B1.out hb)
  clear hb X1 B1
  obtain ⟨c0, c1, c2⟩ := cells3a X2.out
  go_wp2_with fail
  go_region_held3 (fun w' => w'.cell? ⟨w.heap.size, 0, none⟩ = some (.int .i64 n) ∧ w'.cell? ⟨w.heap.size, 1, none⟩ = some (.int .i64 d) ∧ w'.cell? ⟨w.heap.size, 2, none⟩ = some (.int .i64 tu)) (go_keep)
    (first
      | (go_at_call 54; (with_reducible refine (made_calls n d tu _ HO.out).mono ?_); rintro e w3 ⟨mo, mc, g1, g2, rfl, hI, hC, hb⟩; have M3 := Aside0.mk (And.intro (Nat.le_trans B2.out.size g1) (Nat.le_trans B2.out.size g2)); have OM := Aside0.mk hI; have TM := Aside0.mk hC; have X3 := Aside0.mk (blk_below (blk_drew X2.out) hb); have B3 := Aside0.mk (below_step (below_drew1 B2.out) hb); clear hb hI hC g1 g2 X2 B2 c0 c1 c2; obtain ⟨c0, c1, c2⟩ := cells3a X3.out)
      | (go_at_call 54; (with_reducible refine (made_calls n d tu _ HO.out).mono ?_); rintro e w4 ⟨so, sc, g1, g2, rfl, hI, hC, hb⟩; have M4 := Aside0.mk (And.intro (Nat.le_trans B3.out.size g1) (Nat.le_trans B3.out.size g2)); have N4 : Aside0 (mo ≠ so ∧ mc ≠ sc) := ⟨⟨by have := blk_lt OM.out; omega, by have := blk_lt TM.out; omega⟩⟩; have OM4 := Aside0.mk (OscIs.below OM.out hb); have TM4 := Aside0.mk (TM.out.below hb); have OS := Aside0.mk hI; have TS := Aside0.mk hC; have X4 := Aside0.mk (blk_below X3.out hb); have B4 := Aside0.mk (below_step B3.out hb); clear hb hI hC g1 g2 X3 B3 OM TM c0 c1 c2; obtain ⟨c0, c1, c2⟩ := cells3a X4.out))
  have K0 : Aside0 (PA w (w4.alloc (.cells #[.int .i64 n, .int .i64 d, .int .i64 tu, .pointer (some ⟨mo, 0, none⟩), .pointer (some ⟨mc, 0, none⟩), .pointer (some ⟨so, 0, none⟩), .pointer (some ⟨sc, 0, none⟩), .int .i64 0, .pointer none, .pointer none, .bool false] 108)) w4.heap.size mo mc so sc n d tu ⟨0, false, 0, false, 0, 0, 1048576, 0, 0, 0, 1048576, 0, 0, none, none, false⟩ (.pointer none) (.pointer none)) :=
    ⟨⟨blk_new _ _, blk_alloc OM4.out _, blk_alloc OS.out _, blk_alloc TM4.out _, blk_alloc TS.out _, rfl, rfl, below_alloc B4.out _, ⟨B4.out.size, M3.out.1, M3.out.2, M4.out.1, M4.out.2⟩, N4.out, ⟨by decide, by decide, by decide, by decide, by decide, by decide, by decide, by decide, by decide, by decide⟩⟩⟩
  clear OM4 TM4 OS TS X4 B4 M3 M4 N4 c0 c1 c2
  obtain ⟨u2, u3, u4, u5, u6, u7, u8, u9, u10, z7, z8, z9, z10⟩ := K0.out.cells
  (try dsimp only at u2 u3 u4 u5 u6 u7 u8 u9 u10 z7 z8 z9 z10)
  go_wp2_with fail
  (with_reducible refine (Shift_calls sc 0 0 1048576 0 0 start 0 0 start 1048576 _ K0.out.ts I0.out.1 I0.out.1 I0.out.2.1 I0.out.1 I0.out.2.2 L1.out).mono ?_); rintro e w5 hp
  have K1 := Aside0.mk (K0.out.setSc hp I0.out.1 I0.out.2.2 I0.out.2.1 I0.out.1)
  obtain rfl := hp.1
  clear hp u2 u3 u4 u5 u6 u7 u8 u9 u10 z7 z8 z9 z10
  obtain ⟨u2, u3, u4, u5, u6, u7, u8, u9, u10, z7, z8, z9, z10⟩ := K1.out.cells
  (try dsimp only at u2 u3 u4 u5 u6 u7 u8 u9 u10 z7 z8 z9 z10)
  go_wp2_with fail
  (with_reducible refine (read_calls so sc n d 0 0 start 1048576 0 start start false true _ K1.out.os K1.out.ts I0.out.1 I0.out.2.2 I0.out.2.1 I0.out.1 L2.out L3.out).mono ?_); rintro e w6 hp
  have K2 := Aside0.mk (K1.out.setSc hp I0.out.1 I0.out.2.2 I0.out.2.1 I0.out.2.2)
  obtain rfl := hp.1
  clear hp
  go_wp2_with fail
  go_ret2
  exact ⟨w4.heap.size, mo, mc, so, sc, rfl, K2.out.eta rfl⟩
set_option maxHeartbeats 4000000 in
set_option maxRecDepth 100000 in
theorem PNew_no (n d tu start : Int) (a b : Bool) (w : World) (h : accord_Right.f n d tu = some a) (hw : accord_within.f start 1125899906842624 = some b) (hab : (a && b) = false) :
    Calls Try.prog 22 #[.agg #[.int .i64 n, .int .i64 d, .int .i64 tu], .int .i64 start] w fun e w' => e = .returned (.tuple #[.pointer none, .int .i64 1]) ∧ Below w.heap.size w w' := by
  have H := Aside0.mk h
  have HW := Aside0.mk hw
  have HAB := Aside0.mk hab
  clear h hw hab
  have hu25 := Try.underlying52
  have X0 := Aside0.mk (blk_new w (.cells #[.int .i64 n, .int .i64 d, .int .i64 tu] 52))
  have B0 := Aside0.mk (below_alloc (Below.refl w.heap.size w) (.cells #[.int .i64 n, .int .i64 d, .int .i64 tu] 52))
  obtain ⟨c0, c1, c2⟩ := cells3a X0.out
  cases a with
  | false =>
    go_enter Try.func22, Try.ntmps22
    go_wp2_with fail
    (with_reducible refine (accord_Right.calls n d tu false _ H.out).mono ?_); rintro e w1 ⟨rfl, hb⟩
    go_wp2_with fail
    go_ret2
    exact ⟨rfl, below_step B0.out hb⟩
  | true =>
    obtain rfl : b = false := by simpa using HAB.out
    go_enter Try.func22, Try.ntmps22
    go_wp2_with fail
    (with_reducible refine (accord_Right.calls n d tu true _ H.out).mono ?_); rintro e w1 ⟨rfl, hb⟩
    have B1 := Aside0.mk (below_step B0.out hb)
    clear hb
    go_wp2_with fail
    (with_reducible refine (accord_within.calls start 1125899906842624 false _ HW.out).mono ?_); rintro e w2 ⟨rfl, hb⟩
    go_wp2_with fail
    go_ret2
    exact ⟨rfl, below_step B1.out hb⟩
end Go.Proofs.Ytgnkmpgnlpjglaa.P
