/- A small config, and ticks within, walked by hand. No condition but that the numbers are within 64 bits. -/
import Derived.Test.YtgnkmpgnlpjglaaAccordNew
namespace Go.Proofs.Ytgnkmpgnlpjglaa.P
open Go.RowKit Go.Proofs.YtgnkmpgnlpjglaaW.PrintWords Go.Proofs.YtgnkmpgnlpjglaaW.PrintLast Go.Proofs.YtgnkmpgnlpjglaaW.PrintMore
set_option linter.unusedVariables false
set_option linter.unusedSimpArgs false
theorem cells3f {w : World} {g : Nat} {a b c : Value} {t : TypeId} (h : w.heap[g]? = some (.cells #[a, b, c] t (0, 0))) :
    w.frozen? ⟨g, 0, none⟩ = false ∧ w.frozen? ⟨g, 1, none⟩ = false ∧ w.frozen? ⟨g, 2, none⟩ = false := ⟨blk_frozen h 0, blk_frozen h 1, blk_frozen h 2⟩
theorem two_new (w : World) (A B : Obj) : ((w.alloc A).alloc B).heap[w.heap.size + 1]? = some B := by
  have e := blk_new (w.alloc A) B
  rw [show (w.alloc A).heap.size = w.heap.size + 1 by simp] at e
  exact e
set_option maxHeartbeats 4000000 in
set_option maxRecDepth 100000 in
theorem Small_0 (n d t m q n1 d1 t1 : Int) (w : World) (ha : decide (n < 0) = false) (hb : decide (d < 0) = false) (hc : decide (t < 0) = false)
    (e0 : Int.tmod n 5000 = m) (e1 : wrap64 (m + 2) = n1) (e2 : Int.tdiv n1 2 = q) (e2w : wrap64 q = q) (e3 : ¬ q = 0) (e4 : Int.tmod d q = d1) (e5 : Int.tmod t 4097 = t1) :
    Calls Try.prog 21 #[.agg #[.int .i64 n, .int .i64 d, .int .i64 t]] w fun e w' => e = .returned (.agg #[.int .i64 n1, .int .i64 d1, .int .i64 t1]) ∧ Below w.heap.size w w' := by
  have e3b : (q = 0) = False := eq_false e3
  have hu23 := Try.underlying50
  have hu25 := Try.underlying52
  have X0 := Aside0.mk (blk_alloc (blk_new w (.cells #[.int .i64 n, .int .i64 d, .int .i64 t] 52)) (.cells #[.int .i64 0, .int .i64 0, .int .i64 0] 52))
  have X1 : Aside0 (((w.alloc (.cells #[.int .i64 n, .int .i64 d, .int .i64 t] 52)).alloc (.cells #[.int .i64 0, .int .i64 0, .int .i64 0] 52)).heap[w.heap.size + 1]? = some (.cells #[.int .i64 0, .int .i64 0, .int .i64 0] 52 (0, 0))) := ⟨by
    have e := blk_new (w.alloc (.cells #[.int .i64 n, .int .i64 d, .int .i64 t] 52)) (.cells #[.int .i64 0, .int .i64 0, .int .i64 0] 52)
    rw [show (w.alloc (.cells #[.int .i64 n, .int .i64 d, .int .i64 t] 52)).heap.size = w.heap.size + 1 by simp] at e
    exact e⟩
  obtain ⟨c0, c1, c2⟩ := cells3a X0.out
  obtain ⟨f0, f1, f2⟩ := cells3f X0.out
  obtain ⟨d0, d1', d2⟩ := cells3a X1.out
  obtain ⟨g0, g1, g2⟩ := cells3f X1.out
  go_enter Try.func21, Try.ntmps21
  go_wp2_with fail
  (try simp only [Exit.jump])
  refine bodyPost_ret (results_single rfl (.cell (w.heap.size + 1) 52 _ (0, 0) _ rfl (two_new w _ _) Try.underlying52 rfl (by kernel_rfl) .nil)) rfl ?_
  exact ⟨rfl, below_alloc (below_alloc (Below.refl w.heap.size w) _) _⟩
set_option maxHeartbeats 4000000 in
set_option maxRecDepth 100000 in
theorem Small_1 (n d t m q n1 d1 t1 : Int) (w : World) (ha : decide (n < 0) = false) (hb : decide (d < 0) = false) (hc : decide (t < 0) = true)
    (e0 : Int.tmod n 5000 = m) (e1 : wrap64 (m + 2) = n1) (e2 : Int.tdiv n1 2 = q) (e2w : wrap64 q = q) (e3 : ¬ q = 0) (e4 : Int.tmod d q = d1) (e5 : Int.tmod 0 4097 = t1) :
    Calls Try.prog 21 #[.agg #[.int .i64 n, .int .i64 d, .int .i64 t]] w fun e w' => e = .returned (.agg #[.int .i64 n1, .int .i64 d1, .int .i64 t1]) ∧ Below w.heap.size w w' := by
  have e3b : (q = 0) = False := eq_false e3
  have hu23 := Try.underlying50
  have hu25 := Try.underlying52
  obtain rfl : t1 = 0 := by rw [← e5]; rfl
  have X0 := Aside0.mk (blk_alloc (blk_new w (.cells #[.int .i64 n, .int .i64 d, .int .i64 t] 52)) (.cells #[.int .i64 0, .int .i64 0, .int .i64 0] 52))
  have X1 : Aside0 (((w.alloc (.cells #[.int .i64 n, .int .i64 d, .int .i64 t] 52)).alloc (.cells #[.int .i64 0, .int .i64 0, .int .i64 0] 52)).heap[w.heap.size + 1]? = some (.cells #[.int .i64 0, .int .i64 0, .int .i64 0] 52 (0, 0))) := ⟨by
    have e := blk_new (w.alloc (.cells #[.int .i64 n, .int .i64 d, .int .i64 t] 52)) (.cells #[.int .i64 0, .int .i64 0, .int .i64 0] 52)
    rw [show (w.alloc (.cells #[.int .i64 n, .int .i64 d, .int .i64 t] 52)).heap.size = w.heap.size + 1 by simp] at e
    exact e⟩
  obtain ⟨c0, c1, c2⟩ := cells3a X0.out
  obtain ⟨f0, f1, f2⟩ := cells3f X0.out
  obtain ⟨d0, d1', d2⟩ := cells3a X1.out
  obtain ⟨g0, g1, g2⟩ := cells3f X1.out
  go_enter Try.func21, Try.ntmps21
  go_wp2_with fail
  (try simp only [Exit.jump])
  refine bodyPost_ret (results_single rfl (.cell (w.heap.size + 1) 52 _ (0, 0) _ rfl (two_new w _ _) Try.underlying52 rfl (by kernel_rfl) .nil)) rfl ?_
  exact ⟨rfl, below_alloc (below_alloc (Below.refl w.heap.size w) _) _⟩
set_option maxHeartbeats 4000000 in
set_option maxRecDepth 100000 in
theorem Small_2 (n d t m q n1 d1 t1 : Int) (w : World) (ha : decide (n < 0) = false) (hb : decide (d < 0) = true) (hc : decide (t < 0) = false)
    (e0 : Int.tmod n 5000 = m) (e1 : wrap64 (m + 2) = n1) (e2 : Int.tdiv n1 2 = q) (e2w : wrap64 q = q) (e3 : ¬ q = 0) (e4 : Int.tmod 0 q = d1) (e5 : Int.tmod t 4097 = t1) :
    Calls Try.prog 21 #[.agg #[.int .i64 n, .int .i64 d, .int .i64 t]] w fun e w' => e = .returned (.agg #[.int .i64 n1, .int .i64 d1, .int .i64 t1]) ∧ Below w.heap.size w w' := by
  have e3b : (q = 0) = False := eq_false e3
  have hu23 := Try.underlying50
  have hu25 := Try.underlying52
  obtain rfl : d1 = 0 := by rw [← e4, Int.zero_tmod]
  have X0 := Aside0.mk (blk_alloc (blk_new w (.cells #[.int .i64 n, .int .i64 d, .int .i64 t] 52)) (.cells #[.int .i64 0, .int .i64 0, .int .i64 0] 52))
  have X1 : Aside0 (((w.alloc (.cells #[.int .i64 n, .int .i64 d, .int .i64 t] 52)).alloc (.cells #[.int .i64 0, .int .i64 0, .int .i64 0] 52)).heap[w.heap.size + 1]? = some (.cells #[.int .i64 0, .int .i64 0, .int .i64 0] 52 (0, 0))) := ⟨by
    have e := blk_new (w.alloc (.cells #[.int .i64 n, .int .i64 d, .int .i64 t] 52)) (.cells #[.int .i64 0, .int .i64 0, .int .i64 0] 52)
    rw [show (w.alloc (.cells #[.int .i64 n, .int .i64 d, .int .i64 t] 52)).heap.size = w.heap.size + 1 by simp] at e
    exact e⟩
  obtain ⟨c0, c1, c2⟩ := cells3a X0.out
  obtain ⟨f0, f1, f2⟩ := cells3f X0.out
  obtain ⟨d0, d1', d2⟩ := cells3a X1.out
  obtain ⟨g0, g1, g2⟩ := cells3f X1.out
  go_enter Try.func21, Try.ntmps21
  go_wp2_with fail
  (try simp only [Exit.jump])
  refine bodyPost_ret (results_single rfl (.cell (w.heap.size + 1) 52 _ (0, 0) _ rfl (two_new w _ _) Try.underlying52 rfl (by kernel_rfl) .nil)) rfl ?_
  exact ⟨rfl, below_alloc (below_alloc (Below.refl w.heap.size w) _) _⟩
set_option maxHeartbeats 4000000 in
set_option maxRecDepth 100000 in
theorem Small_3 (n d t m q n1 d1 t1 : Int) (w : World) (ha : decide (n < 0) = false) (hb : decide (d < 0) = true) (hc : decide (t < 0) = true)
    (e0 : Int.tmod n 5000 = m) (e1 : wrap64 (m + 2) = n1) (e2 : Int.tdiv n1 2 = q) (e2w : wrap64 q = q) (e3 : ¬ q = 0) (e4 : Int.tmod 0 q = d1) (e5 : Int.tmod 0 4097 = t1) :
    Calls Try.prog 21 #[.agg #[.int .i64 n, .int .i64 d, .int .i64 t]] w fun e w' => e = .returned (.agg #[.int .i64 n1, .int .i64 d1, .int .i64 t1]) ∧ Below w.heap.size w w' := by
  have e3b : (q = 0) = False := eq_false e3
  have hu23 := Try.underlying50
  have hu25 := Try.underlying52
  obtain rfl : d1 = 0 := by rw [← e4, Int.zero_tmod]
  obtain rfl : t1 = 0 := by rw [← e5]; rfl
  have X0 := Aside0.mk (blk_alloc (blk_new w (.cells #[.int .i64 n, .int .i64 d, .int .i64 t] 52)) (.cells #[.int .i64 0, .int .i64 0, .int .i64 0] 52))
  have X1 : Aside0 (((w.alloc (.cells #[.int .i64 n, .int .i64 d, .int .i64 t] 52)).alloc (.cells #[.int .i64 0, .int .i64 0, .int .i64 0] 52)).heap[w.heap.size + 1]? = some (.cells #[.int .i64 0, .int .i64 0, .int .i64 0] 52 (0, 0))) := ⟨by
    have e := blk_new (w.alloc (.cells #[.int .i64 n, .int .i64 d, .int .i64 t] 52)) (.cells #[.int .i64 0, .int .i64 0, .int .i64 0] 52)
    rw [show (w.alloc (.cells #[.int .i64 n, .int .i64 d, .int .i64 t] 52)).heap.size = w.heap.size + 1 by simp] at e
    exact e⟩
  obtain ⟨c0, c1, c2⟩ := cells3a X0.out
  obtain ⟨f0, f1, f2⟩ := cells3f X0.out
  obtain ⟨d0, d1', d2⟩ := cells3a X1.out
  obtain ⟨g0, g1, g2⟩ := cells3f X1.out
  go_enter Try.func21, Try.ntmps21
  go_wp2_with fail
  (try simp only [Exit.jump])
  refine bodyPost_ret (results_single rfl (.cell (w.heap.size + 1) 52 _ (0, 0) _ rfl (two_new w _ _) Try.underlying52 rfl (by kernel_rfl) .nil)) rfl ?_
  exact ⟨rfl, below_alloc (below_alloc (Below.refl w.heap.size w) _) _⟩
set_option maxHeartbeats 4000000 in
set_option maxRecDepth 100000 in
theorem Small_4 (n d t m q n1 d1 t1 : Int) (w : World) (ha : decide (n < 0) = true) (hb : decide (d < 0) = false) (hc : decide (t < 0) = false)
    (e0 : Int.tmod 0 5000 = m) (e1 : wrap64 (m + 2) = n1) (e2 : Int.tdiv n1 2 = q) (e2w : wrap64 q = q) (e3 : ¬ q = 0) (e4 : Int.tmod d q = d1) (e5 : Int.tmod t 4097 = t1) :
    Calls Try.prog 21 #[.agg #[.int .i64 n, .int .i64 d, .int .i64 t]] w fun e w' => e = .returned (.agg #[.int .i64 n1, .int .i64 d1, .int .i64 t1]) ∧ Below w.heap.size w w' := by
  have e3b : (q = 0) = False := eq_false e3
  have hu23 := Try.underlying50
  have hu25 := Try.underlying52
  obtain rfl : m = 0 := by rw [← e0]; rfl
  obtain rfl : n1 = 2 := by rw [← e1]; exact wr64 2 (by omega) (by omega)
  obtain rfl : q = 1 := by rw [← e2]; rfl
  have X0 := Aside0.mk (blk_alloc (blk_new w (.cells #[.int .i64 n, .int .i64 d, .int .i64 t] 52)) (.cells #[.int .i64 0, .int .i64 0, .int .i64 0] 52))
  have X1 : Aside0 (((w.alloc (.cells #[.int .i64 n, .int .i64 d, .int .i64 t] 52)).alloc (.cells #[.int .i64 0, .int .i64 0, .int .i64 0] 52)).heap[w.heap.size + 1]? = some (.cells #[.int .i64 0, .int .i64 0, .int .i64 0] 52 (0, 0))) := ⟨by
    have e := blk_new (w.alloc (.cells #[.int .i64 n, .int .i64 d, .int .i64 t] 52)) (.cells #[.int .i64 0, .int .i64 0, .int .i64 0] 52)
    rw [show (w.alloc (.cells #[.int .i64 n, .int .i64 d, .int .i64 t] 52)).heap.size = w.heap.size + 1 by simp] at e
    exact e⟩
  obtain ⟨c0, c1, c2⟩ := cells3a X0.out
  obtain ⟨f0, f1, f2⟩ := cells3f X0.out
  obtain ⟨d0, d1', d2⟩ := cells3a X1.out
  obtain ⟨g0, g1, g2⟩ := cells3f X1.out
  go_enter Try.func21, Try.ntmps21
  go_wp2_with fail
  (try simp only [Exit.jump])
  refine bodyPost_ret (results_single rfl (.cell (w.heap.size + 1) 52 _ (0, 0) _ rfl (two_new w _ _) Try.underlying52 rfl (by kernel_rfl) .nil)) rfl ?_
  exact ⟨rfl, below_alloc (below_alloc (Below.refl w.heap.size w) _) _⟩
set_option maxHeartbeats 4000000 in
set_option maxRecDepth 100000 in
theorem Small_5 (n d t m q n1 d1 t1 : Int) (w : World) (ha : decide (n < 0) = true) (hb : decide (d < 0) = false) (hc : decide (t < 0) = true)
    (e0 : Int.tmod 0 5000 = m) (e1 : wrap64 (m + 2) = n1) (e2 : Int.tdiv n1 2 = q) (e2w : wrap64 q = q) (e3 : ¬ q = 0) (e4 : Int.tmod d q = d1) (e5 : Int.tmod 0 4097 = t1) :
    Calls Try.prog 21 #[.agg #[.int .i64 n, .int .i64 d, .int .i64 t]] w fun e w' => e = .returned (.agg #[.int .i64 n1, .int .i64 d1, .int .i64 t1]) ∧ Below w.heap.size w w' := by
  have e3b : (q = 0) = False := eq_false e3
  have hu23 := Try.underlying50
  have hu25 := Try.underlying52
  obtain rfl : m = 0 := by rw [← e0]; rfl
  obtain rfl : n1 = 2 := by rw [← e1]; exact wr64 2 (by omega) (by omega)
  obtain rfl : q = 1 := by rw [← e2]; rfl
  obtain rfl : t1 = 0 := by rw [← e5]; rfl
  have X0 := Aside0.mk (blk_alloc (blk_new w (.cells #[.int .i64 n, .int .i64 d, .int .i64 t] 52)) (.cells #[.int .i64 0, .int .i64 0, .int .i64 0] 52))
  have X1 : Aside0 (((w.alloc (.cells #[.int .i64 n, .int .i64 d, .int .i64 t] 52)).alloc (.cells #[.int .i64 0, .int .i64 0, .int .i64 0] 52)).heap[w.heap.size + 1]? = some (.cells #[.int .i64 0, .int .i64 0, .int .i64 0] 52 (0, 0))) := ⟨by
    have e := blk_new (w.alloc (.cells #[.int .i64 n, .int .i64 d, .int .i64 t] 52)) (.cells #[.int .i64 0, .int .i64 0, .int .i64 0] 52)
    rw [show (w.alloc (.cells #[.int .i64 n, .int .i64 d, .int .i64 t] 52)).heap.size = w.heap.size + 1 by simp] at e
    exact e⟩
  obtain ⟨c0, c1, c2⟩ := cells3a X0.out
  obtain ⟨f0, f1, f2⟩ := cells3f X0.out
  obtain ⟨d0, d1', d2⟩ := cells3a X1.out
  obtain ⟨g0, g1, g2⟩ := cells3f X1.out
  go_enter Try.func21, Try.ntmps21
  go_wp2_with fail
  (try simp only [Exit.jump])
  refine bodyPost_ret (results_single rfl (.cell (w.heap.size + 1) 52 _ (0, 0) _ rfl (two_new w _ _) Try.underlying52 rfl (by kernel_rfl) .nil)) rfl ?_
  exact ⟨rfl, below_alloc (below_alloc (Below.refl w.heap.size w) _) _⟩
set_option maxHeartbeats 4000000 in
set_option maxRecDepth 100000 in
theorem Small_6 (n d t m q n1 d1 t1 : Int) (w : World) (ha : decide (n < 0) = true) (hb : decide (d < 0) = true) (hc : decide (t < 0) = false)
    (e0 : Int.tmod 0 5000 = m) (e1 : wrap64 (m + 2) = n1) (e2 : Int.tdiv n1 2 = q) (e2w : wrap64 q = q) (e3 : ¬ q = 0) (e4 : Int.tmod 0 q = d1) (e5 : Int.tmod t 4097 = t1) :
    Calls Try.prog 21 #[.agg #[.int .i64 n, .int .i64 d, .int .i64 t]] w fun e w' => e = .returned (.agg #[.int .i64 n1, .int .i64 d1, .int .i64 t1]) ∧ Below w.heap.size w w' := by
  have e3b : (q = 0) = False := eq_false e3
  have hu23 := Try.underlying50
  have hu25 := Try.underlying52
  obtain rfl : m = 0 := by rw [← e0]; rfl
  obtain rfl : n1 = 2 := by rw [← e1]; exact wr64 2 (by omega) (by omega)
  obtain rfl : q = 1 := by rw [← e2]; rfl
  obtain rfl : d1 = 0 := by rw [← e4, Int.zero_tmod]
  have X0 := Aside0.mk (blk_alloc (blk_new w (.cells #[.int .i64 n, .int .i64 d, .int .i64 t] 52)) (.cells #[.int .i64 0, .int .i64 0, .int .i64 0] 52))
  have X1 : Aside0 (((w.alloc (.cells #[.int .i64 n, .int .i64 d, .int .i64 t] 52)).alloc (.cells #[.int .i64 0, .int .i64 0, .int .i64 0] 52)).heap[w.heap.size + 1]? = some (.cells #[.int .i64 0, .int .i64 0, .int .i64 0] 52 (0, 0))) := ⟨by
    have e := blk_new (w.alloc (.cells #[.int .i64 n, .int .i64 d, .int .i64 t] 52)) (.cells #[.int .i64 0, .int .i64 0, .int .i64 0] 52)
    rw [show (w.alloc (.cells #[.int .i64 n, .int .i64 d, .int .i64 t] 52)).heap.size = w.heap.size + 1 by simp] at e
    exact e⟩
  obtain ⟨c0, c1, c2⟩ := cells3a X0.out
  obtain ⟨f0, f1, f2⟩ := cells3f X0.out
  obtain ⟨d0, d1', d2⟩ := cells3a X1.out
  obtain ⟨g0, g1, g2⟩ := cells3f X1.out
  go_enter Try.func21, Try.ntmps21
  go_wp2_with fail
  (try simp only [Exit.jump])
  refine bodyPost_ret (results_single rfl (.cell (w.heap.size + 1) 52 _ (0, 0) _ rfl (two_new w _ _) Try.underlying52 rfl (by kernel_rfl) .nil)) rfl ?_
  exact ⟨rfl, below_alloc (below_alloc (Below.refl w.heap.size w) _) _⟩
set_option maxHeartbeats 4000000 in
set_option maxRecDepth 100000 in
theorem Small_7 (n d t m q n1 d1 t1 : Int) (w : World) (ha : decide (n < 0) = true) (hb : decide (d < 0) = true) (hc : decide (t < 0) = true)
    (e0 : Int.tmod 0 5000 = m) (e1 : wrap64 (m + 2) = n1) (e2 : Int.tdiv n1 2 = q) (e2w : wrap64 q = q) (e3 : ¬ q = 0) (e4 : Int.tmod 0 q = d1) (e5 : Int.tmod 0 4097 = t1) :
    Calls Try.prog 21 #[.agg #[.int .i64 n, .int .i64 d, .int .i64 t]] w fun e w' => e = .returned (.agg #[.int .i64 n1, .int .i64 d1, .int .i64 t1]) ∧ Below w.heap.size w w' := by
  have e3b : (q = 0) = False := eq_false e3
  have hu23 := Try.underlying50
  have hu25 := Try.underlying52
  obtain rfl : m = 0 := by rw [← e0]; rfl
  obtain rfl : n1 = 2 := by rw [← e1]; exact wr64 2 (by omega) (by omega)
  obtain rfl : q = 1 := by rw [← e2]; rfl
  obtain rfl : d1 = 0 := by rw [← e4, Int.zero_tmod]
  obtain rfl : t1 = 0 := by rw [← e5]; rfl
  have X0 := Aside0.mk (blk_alloc (blk_new w (.cells #[.int .i64 n, .int .i64 d, .int .i64 t] 52)) (.cells #[.int .i64 0, .int .i64 0, .int .i64 0] 52))
  have X1 : Aside0 (((w.alloc (.cells #[.int .i64 n, .int .i64 d, .int .i64 t] 52)).alloc (.cells #[.int .i64 0, .int .i64 0, .int .i64 0] 52)).heap[w.heap.size + 1]? = some (.cells #[.int .i64 0, .int .i64 0, .int .i64 0] 52 (0, 0))) := ⟨by
    have e := blk_new (w.alloc (.cells #[.int .i64 n, .int .i64 d, .int .i64 t] 52)) (.cells #[.int .i64 0, .int .i64 0, .int .i64 0] 52)
    rw [show (w.alloc (.cells #[.int .i64 n, .int .i64 d, .int .i64 t] 52)).heap.size = w.heap.size + 1 by simp] at e
    exact e⟩
  obtain ⟨c0, c1, c2⟩ := cells3a X0.out
  obtain ⟨f0, f1, f2⟩ := cells3f X0.out
  obtain ⟨d0, d1', d2⟩ := cells3a X1.out
  obtain ⟨g0, g1, g2⟩ := cells3f X1.out
  go_enter Try.func21, Try.ntmps21
  go_wp2_with fail
  (try simp only [Exit.jump])
  refine bodyPost_ret (results_single rfl (.cell (w.heap.size + 1) 52 _ (0, 0) _ rfl (two_new w _ _) Try.underlying52 rfl (by kernel_rfl) .nil)) rfl ?_
  exact ⟨rfl, below_alloc (below_alloc (Below.refl w.heap.size w) _) _⟩
/-- What a small config's numbers are. -/
def nz (x : Int) : Int := if x < 0 then 0 else x
def smN (n : Int) : Int := Int.tmod (nz n) 5000 + 2
def smD (n d : Int) : Int := Int.tmod (nz d) (Int.tdiv (smN n) 2)
def smT (t : Int) : Int := Int.tmod (nz t) 4097
theorem nz0 (x : Int) : 0 ≤ nz x := by unfold nz; split <;> omega
theorem tm0 (x T : Int) (h : 0 ≤ x) (hT : 0 < T) : 0 ≤ Int.tmod x T ∧ Int.tmod x T < T := by
  rw [Int.tmod_eq_emod_of_nonneg h]
  exact ⟨Int.emod_nonneg _ (by omega), Int.emod_lt_of_pos _ hT⟩
theorem sm_range (n d t : Int) : 2 ≤ smN n ∧ smN n ≤ 5001 ∧ 0 ≤ smD n d ∧ 2 * smD n d < smN n ∧ 0 ≤ smT t ∧ smT t ≤ 4096 ∧ 1 ≤ Int.tdiv (smN n) 2 ∧ Int.tdiv (smN n) 2 ≤ 2500 := by
  have h1 := tm0 (nz n) 5000 (nz0 n) (by omega)
  have hN : 2 ≤ smN n ∧ smN n ≤ 5001 := by unfold smN; omega
  have hq : Int.tdiv (smN n) 2 = smN n / 2 := Int.tdiv_eq_ediv_of_nonneg (by omega)
  have h2 := tm0 (nz d) (Int.tdiv (smN n) 2) (nz0 d) (by rw [hq]; omega)
  have h3 := tm0 (nz t) 4097 (nz0 t) (by omega)
  unfold smD smT
  omega
theorem Small_calls (n d t : Int) (w : World) : Calls Try.prog 21 #[.agg #[.int .i64 n, .int .i64 d, .int .i64 t]] w fun e w' => e = .returned (.agg #[.int .i64 (smN n), .int .i64 (smD n d), .int .i64 (smT t)]) ∧ Below w.heap.size w w' := by
  obtain ⟨r1, r2, r3, r4, r5, r6, r7, r8⟩ := sm_range n d t
  have e1 : wrap64 (Int.tmod (nz n) 5000 + 2) = smN n := wr64 _ (by show _ ≤ smN n; omega) (by show smN n ≤ _; omega)
  have e2w : wrap64 (Int.tdiv (smN n) 2) = Int.tdiv (smN n) 2 := wr64 _ (by omega) (by omega)
  have e3 : ¬ Int.tdiv (smN n) 2 = 0 := by omega
  by_cases a : n < 0 <;> by_cases b : d < 0 <;> by_cases c : t < 0
  · have z1 : nz n = 0 := by unfold nz; rw [if_pos a]
    have z2 : nz d = 0 := by unfold nz; rw [if_pos b]
    have z3 : nz t = 0 := by unfold nz; rw [if_pos c]
    exact Small_7 n d t _ _ _ _ _ w (decide_eq_true a) (decide_eq_true b) (decide_eq_true c) rfl (by rw [z1] at e1; exact e1) rfl e2w e3 (by unfold smD; rw [z2]) (by unfold smT; rw [z3])
  · have z1 : nz n = 0 := by unfold nz; rw [if_pos a]
    have z2 : nz d = 0 := by unfold nz; rw [if_pos b]
    have z3 : nz t = t := by unfold nz; rw [if_neg c]
    exact Small_6 n d t _ _ _ _ _ w (decide_eq_true a) (decide_eq_true b) (decide_eq_false c) rfl (by rw [z1] at e1; exact e1) rfl e2w e3 (by unfold smD; rw [z2]) (by unfold smT; rw [z3])
  · have z1 : nz n = 0 := by unfold nz; rw [if_pos a]
    have z2 : nz d = d := by unfold nz; rw [if_neg b]
    have z3 : nz t = 0 := by unfold nz; rw [if_pos c]
    exact Small_5 n d t _ _ _ _ _ w (decide_eq_true a) (decide_eq_false b) (decide_eq_true c) rfl (by rw [z1] at e1; exact e1) rfl e2w e3 (by unfold smD; rw [z2]) (by unfold smT; rw [z3])
  · have z1 : nz n = 0 := by unfold nz; rw [if_pos a]
    have z2 : nz d = d := by unfold nz; rw [if_neg b]
    have z3 : nz t = t := by unfold nz; rw [if_neg c]
    exact Small_4 n d t _ _ _ _ _ w (decide_eq_true a) (decide_eq_false b) (decide_eq_false c) rfl (by rw [z1] at e1; exact e1) rfl e2w e3 (by unfold smD; rw [z2]) (by unfold smT; rw [z3])
  · have z1 : nz n = n := by unfold nz; rw [if_neg a]
    have z2 : nz d = 0 := by unfold nz; rw [if_pos b]
    have z3 : nz t = 0 := by unfold nz; rw [if_pos c]
    exact Small_3 n d t _ _ _ _ _ w (decide_eq_false a) (decide_eq_true b) (decide_eq_true c) rfl (by rw [z1] at e1; exact e1) rfl e2w e3 (by unfold smD; rw [z2]) (by unfold smT; rw [z3])
  · have z1 : nz n = n := by unfold nz; rw [if_neg a]
    have z2 : nz d = 0 := by unfold nz; rw [if_pos b]
    have z3 : nz t = t := by unfold nz; rw [if_neg c]
    exact Small_2 n d t _ _ _ _ _ w (decide_eq_false a) (decide_eq_true b) (decide_eq_false c) rfl (by rw [z1] at e1; exact e1) rfl e2w e3 (by unfold smD; rw [z2]) (by unfold smT; rw [z3])
  · have z1 : nz n = n := by unfold nz; rw [if_neg a]
    have z2 : nz d = d := by unfold nz; rw [if_neg b]
    have z3 : nz t = 0 := by unfold nz; rw [if_pos c]
    exact Small_1 n d t _ _ _ _ _ w (decide_eq_false a) (decide_eq_false b) (decide_eq_true c) rfl (by rw [z1] at e1; exact e1) rfl e2w e3 (by unfold smD; rw [z2]) (by unfold smT; rw [z3])
  · have z1 : nz n = n := by unfold nz; rw [if_neg a]
    have z2 : nz d = d := by unfold nz; rw [if_neg b]
    have z3 : nz t = t := by unfold nz; rw [if_neg c]
    exact Small_0 n d t _ _ _ _ _ w (decide_eq_false a) (decide_eq_false b) (decide_eq_false c) rfl (by rw [z1] at e1; exact e1) rfl e2w e3 (by unfold smD; rw [z2]) (by unfold smT; rw [z3])
theorem cells3g {w : World} {g : Nat} {a b c : Value} {t : TypeId} (h : w.heap[g]? = some (.cells #[a, b, c] t (0, 0))) :
    w.cell? ⟨g, 0, none⟩ = some a ∧ w.cell? ⟨g, 1, none⟩ = some b :=
  ⟨(blk_cell h 0).trans rfl, (blk_cell h 1).trans rfl⟩
def wiT (n d x : Int) : Int := n - d + Int.tmod (nz x) (2 * d + 1)
theorem wiT_range (n d x : Int) (d0 : 0 ≤ d) : n - d ≤ wiT n d x ∧ wiT n d x ≤ n + d := by
  have h := tm0 (nz x) (2 * d + 1) (nz0 x) (by omega)
  unfold wiT
  omega
end Go.Proofs.Ytgnkmpgnlpjglaa.P
