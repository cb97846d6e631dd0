/- Where a signal's bits stand, by the program's iterator. Conditions: the ranges that each lemma names. -/
import Derived.Test.YtepeihlhokpjjaaSigSeq
namespace Go.Proofs.Ytepeihlhokpjjaa.P
open Go.RowKit Go.Proofs.YtepeihlhokpjjaaW.PrintWords Go.Proofs.YtepeihlhokpjjaaW.PrintLast Go.Proofs.YtepeihlhokpjjaaW.PrintMore
attribute [local go_sem] Oper.semAt_some
set_option linter.unusedVariables false
set_option linter.unusedSimpArgs false
/-- A signal. -/
structure Sg where
  st : Int
  ln : Int
  big : Bool
  sgn : Bool
  sc : Int
  off : Int
abbrev Sg.cells (s : Sg) : Array Value := #[.int .i64 s.st, .int .i64 s.ln, .bool s.big, .bool s.sgn, .int .i64 s.sc, .int .i64 s.off]
abbrev Sg.cs (s : Sg) : Obj := .cells s.cells 23 (0, 0)
abbrev Sg.g (s : Sg) : Value := .agg s.cells
theorem wr_small (n : Int) (h0 : -1000000 ≤ n) (h1 : n ≤ 1000000) : wrap64 n = n := by unfold wrap64; omega
theorem sg_cells {w : World} {g : Nat} {s : Sg} (h : w.heap[g]? = some (.cells #[.int .i64 s.st, .int .i64 s.ln, .bool s.big, .bool s.sgn, .int .i64 s.sc, .int .i64 s.off] 23 (0, 0))) :
    w.cell? ⟨g, 0, none⟩ = some (.int .i64 s.st) ∧ w.cell? ⟨g, 1, none⟩ = some (.int .i64 s.ln) ∧ w.cell? ⟨g, 2, none⟩ = some (.bool s.big) ∧ w.cell? ⟨g, 3, none⟩ = some (.bool s.sgn) ∧ w.cell? ⟨g, 4, none⟩ = some (.int .i64 s.sc) ∧ w.cell? ⟨g, 5, none⟩ = some (.int .i64 s.off) :=
  ⟨(blk_cell h 0).trans rfl, (blk_cell h 1).trans rfl, (blk_cell h 2).trans rfl, (blk_cell h 3).trans rfl, (blk_cell h 4).trans rfl, (blk_cell h 5).trans rfl⟩
def nextAt (big : Bool) (a : Int) : Int := if big = true then (if Int.tmod a 8 = 0 then a + 15 else a - 1) else a + 1
def goL (big : Bool) : Nat → Int → List Int
  | 0, _ => []
  | k + 1, a => if 0 ≤ a ∧ a < 64 then a :: goL big k (nextAt big a) else []
def cnt (ln : Int) : Int := mx 0 (mn ln 64)
theorem cnt_range (ln : Int) : 0 ≤ cnt ln ∧ cnt ln ≤ 64 := by
  unfold cnt mx mn
  (repeat' split) <;> omega
def walkL (s : Sg) : List Int := goL s.big (cnt s.ln).toNat s.st
theorem goL_len (big : Bool) : ∀ (k : Nat) (a : Int), (goL big k a).length ≤ k
  | 0, _ => Nat.zero_le _
  | k + 1, a => by
    unfold goL
    split
    · have := goL_len big k (nextAt big a)
      simp only [List.length_cons]
      omega
    · exact Nat.zero_le _
theorem walkL_len (s : Sg) : (walkL s).length ≤ 64 := Nat.le_trans (goL_len _ _ _) (by have := cnt_range s.ln; omega)
theorem meas_next {N k : Nat} {x : Int} (hx : x = ((k + 1 : Nat) : Int)) (h : k < N) : N - (intOf (.int .i64 x)).toNat < N - (intOf (.int .i64 (k : Int))).toNat := by
  subst hx
  simp only [intOf, Int.toNat_natCast]
  omega
theorem walk_in (F : Fence) (n : Nat) (h : F.fn 43) (hro : F.round = none) (s : Sg) (w : World) :
    CallsIn F n Try.prog 43 #[s.g] w fun e w' => e = .returned (.func (.func 57) #[] #[.pointer (some ⟨w.heap.size, 0, none⟩)]) ∧ w' = w.alloc s.cs := by
  refine callsIn_of_wp Try.func43 rfl h ?_ hro
  simp only [Try.ntmps43, List.size_toArray, List.length_cons, List.length_nil, Nat.reduceAdd, Nat.reduceSub, Array.replicate_succ, Array.replicate_zero, List.push_toArray, List.append_toArray, List.nil_append, List.cons_append]
  have hu23 := Try.underlying23
  gi_wp2
  go_ret
  exact ⟨rfl, rfl⟩
set_option maxRecDepth 100000 in
set_option maxHeartbeats 4000000 in
theorem walk1_seqA (n : Nat) (Bs : Nat) (s : Sg) (w : World) (hB0 : w.heap[Bs]? = some s.cs) (hA : 64 < s.ln) :
    SeqR Fence.wide n Try.prog 57 #[.pointer (some ⟨Bs, 0, none⟩)] (fun x : Int => #[.int .i64 x]) (fun xs => xs = walkL s) 64 (fun k => k = Bs) w := fun l g0 J W hg0 hW hJ hJc hY h0 => by
  have hBW := blk_below hB0 hW
  have HBlt := Aside0.mk (blk_lt hBW)
  have HY := Aside0.mk hY
  have HJ := Aside0.mk hJ
  have HJC := Aside0.mk hJc
  have hu23 := Try.underlying23
  have H0 := Aside0.mk h0
  have HG0 : Aside0 (g0 ≠ some Bs) := ⟨hg0 Bs rfl⟩
  have HBW := Aside0.mk hBW
  obtain ⟨c0, c1, c2, c3, c4, c5⟩ := sg_cells hBW
  have CQ : Aside0 (cnt s.ln = 64) := ⟨by unfold cnt mx mn; (repeat' split) <;> omega⟩
  have d1 : ¬ s.ln ≤ 64 := by omega
  clear hY hJ hJc h0 hW hB0 hBW hg0
  refine callsIn_of_wp Try.func57 rfl trivial ?_ rfl
  simp only [Try.ntmps57, List.size_toArray, List.length_cons, List.length_nil, Nat.reduceAdd, Nat.reduceSub, Array.replicate_succ, Array.replicate_zero, List.push_toArray, List.append_toArray, List.nil_append, List.cons_append]
  gi_wp2
  gi_loopw [3, 10] (fun v3 v10 wr => ∃ (k : Nat) (a : Int), v3 = .int .i64 a ∧ v10 = .int .i64 (k : Int) ∧ Aside0 ((k : Int) ≤ cnt s.ln) ∧ Aside0 (∃ g pre, J g pre wr ∧ g ≠ some Bs ∧ pre.length = k ∧ pre ++ goL s.big ((cnt s.ln).toNat - k) a = walkL s) ∧ Aside0 (wr.heap[Bs]? = some s.cs) ∧ Aside0 (W.heap.size ≤ wr.heap.size)) (fun _ i _ => 64 - (intOf i).toNat)
  case atStart => exact ⟨0, s.st, rfl, rfl, ⟨(cnt_range s.ln).1⟩, ⟨⟨g0, [], H0.out, HG0.out, rfl, rfl⟩⟩, HBW, ⟨Nat.le_refl _⟩⟩
  case round =>
    obtain ⟨k, a, rfl, rfl, HK, HG, HC, HS⟩ := hrel
    clear c0 c1 c2 c3 c4 c5
    obtain ⟨c0, c1, c2, c3, c4, c5⟩ := sg_cells HC.out
    by_cases hlt : (k : Int) < 64
    · have u1 : decide ((k : Int) < 64) = true := decide_eq_true hlt
      have HL : Aside0 ((k : Int) < cnt s.ln) := ⟨by rw [CQ.out]; exact hlt⟩
      clear hlt
      have hk1 : wrap64 ((k : Int) + 1) = ((k + 1 : Nat) : Int) := by rw [wr_small _ (by omega) (by have := HL.out; have := cnt_range s.ln; omega)]; rfl
      by_cases hr : 0 ≤ a ∧ a < 64
      · have u2 : decide (a < 0) = false := decide_eq_false (by omega)
        have u3 : decide (a ≥ 64) = false := decide_eq_false (by omega)
        have HR := Aside0.mk hr
        clear hr
        obtain ⟨g, pre, hg, hgne, hpl, hpe⟩ := HG.out
        obtain ⟨fn, tmps, assign, body, hy, hR⟩ := HY.out g pre a wr hg (by have := cnt_range s.ln; have := HL.out; omega)
        have GN := Aside0.mk (And.intro hgne (And.intro hpl hpe))
        clear hg hgne hpl hpe
        gi_wp2
        refine ⟨(fun h => by cases h), hR.mono ?_⟩
        rintro e W3 ⟨rfl, ⟨g', hJ3, hg'⟩, hk3⟩
        have HB5 : Bs < wr.heap.size := blk_lt HC.out
        have G3 : Aside0 (∃ g pre, J g pre W3 ∧ g ≠ some Bs ∧ pre.length = k + 1 ∧ pre ++ goL s.big ((cnt s.ln).toNat - (k + 1)) (nextAt s.big a) = walkL s) := ⟨⟨g', pre ++ [a], hJ3, by
          rcases hg' with rfl | ⟨r, rfl, hr⟩
          · exact GN.out.1
          · intro e; cases e; omega, by simp [GN.out.2.1], by
          rw [← GN.out.2.2, show (cnt s.ln).toNat - k = ((cnt s.ln).toNat - (k + 1)) + 1 by have := HL.out; omega]
          rw [List.append_assoc]
          congr 1
          show _ = (if 0 ≤ a ∧ a < 64 then _ else _)
          rw [if_pos HR.out]
          rfl⟩⟩
        have HC3 : Aside0 (W3.heap[Bs]? = some s.cs) := ⟨hk3.blk HC.out (fun q => by
          rcases q with ⟨_, q⟩ | q
          · exact q rfl
          · exact GN.out.1 q)⟩
        have HS3 : Aside0 (W.heap.size ≤ W3.heap.size) := ⟨Nat.le_trans HS.out hk3.size⟩
        clear hJ3 hg' hk3 HB5 hy hR c0 c1 c2 c3 c4 c5 HC HS HG
        obtain ⟨c0, c1, c2, c3, c4, c5⟩ := sg_cells HC3.out
        have w1 : wrap64 (a + 1) = a + 1 := wr_small _ (by have := HR.out; omega) (by have := HR.out; omega)
        have w2 : wrap64 (a + 15) = a + 15 := wr_small _ (by have := HR.out; omega) (by have := HR.out; omega)
        have w3 : wrap64 (a - 1) = a - 1 := wr_small _ (by have := HR.out; omega) (by have := HR.out; omega)
        by_cases hb : s.big = true
        · rw [hb] at c2
          by_cases hm : Int.tmod a 8 = 0
          · have u4 : (Int.tmod a 8 == 0) = true := by simpa using hm
            have EN : Aside0 (nextAt s.big a = a + 15) := ⟨by unfold nextAt; rw [if_pos hb, if_pos hm]⟩
            clear hb hm
            gi_wp2
            go_roundw
            case rel => exact ⟨k + 1, a + 15, by first | rfl | rw [w2], by first | rw [hk1] | simp, ⟨by have := HL.out; omega⟩, ⟨by rw [← EN.out]; exact G3.out⟩, HC3, HS3⟩
            case measure => exact meas_next hk1 (by have := HL.out; have := cnt_range s.ln; omega)
          · have u4 : (Int.tmod a 8 == 0) = false := by simpa using hm
            have EN : Aside0 (nextAt s.big a = a - 1) := ⟨by unfold nextAt; rw [if_pos hb, if_neg hm]⟩
            clear hb hm
            gi_wp2
            go_roundw
            case rel => exact ⟨k + 1, a - 1, by first | rfl | rw [w3], by first | rw [hk1] | simp, ⟨by have := HL.out; omega⟩, ⟨by rw [← EN.out]; exact G3.out⟩, HC3, HS3⟩
            case measure => exact meas_next hk1 (by have := HL.out; have := cnt_range s.ln; omega)
        · have hb2 : s.big = false := by simpa using hb
          rw [hb2] at c2
          have EN : Aside0 (nextAt s.big a = a + 1) := ⟨by unfold nextAt; rw [if_neg hb]⟩
          clear hb hb2
          gi_wp2
          go_roundw
          case rel => exact ⟨k + 1, a + 1, by first | rfl | rw [w1], by first | rw [hk1] | simp, ⟨by have := HL.out; omega⟩, ⟨by rw [← EN.out]; exact G3.out⟩, HC3, HS3⟩
          case measure => exact meas_next hk1 (by have := HL.out; have := cnt_range s.ln; omega)
      · have HE : Aside0 (∃ g, J g (walkL s) wr) := ⟨by
          obtain ⟨g, pre, hg, hgne, hpl, hpe⟩ := HG.out
          refine ⟨g, ?_⟩
          rw [← hpe, show (cnt s.ln).toNat - k = ((cnt s.ln).toNat - (k + 1)) + 1 by have := HL.out; omega]
          show J g (pre ++ (if 0 ≤ a ∧ a < 64 then _ else [])) wr
          rw [if_neg hr, List.append_nil]
          exact hg⟩
        by_cases ha : a < 0
        · have u2 : decide (a < 0) = true := decide_eq_true ha
          clear ha hr
          gi_wp2
          refine ⟨fun _ h => (by cases h), ?_⟩
          gi_wp2
          (try simp only [Exit.inBlock, Exit.then])
          refine bodyPost_ret (results_none rfl _ _ _) rfl ?_
          obtain ⟨g, hg⟩ := HE.out
          exact ⟨⟨_, rfl⟩, _, g, rfl, hg⟩
        · have u2 : decide (a < 0) = false := decide_eq_false ha
          have u3 : decide (a ≥ 64) = true := decide_eq_true (by omega)
          clear ha hr
          gi_wp2
          refine ⟨fun _ h => (by cases h), ?_⟩
          gi_wp2
          (try simp only [Exit.inBlock, Exit.then])
          refine bodyPost_ret (results_none rfl _ _ _) rfl ?_
          obtain ⟨g, hg⟩ := HE.out
          exact ⟨⟨_, rfl⟩, _, g, rfl, hg⟩
    · have u1 : decide ((k : Int) < 64) = false := decide_eq_false hlt
      have HE : Aside0 (∃ g, J g (walkL s) wr) := ⟨by
          obtain ⟨g, pre, hg, hgne, hpl, hpe⟩ := HG.out
          refine ⟨g, ?_⟩
          rw [← hpe, show (cnt s.ln).toNat - k = 0 by have := CQ.out; omega]
          show J g (pre ++ []) wr
          rw [List.append_nil]
          exact hg⟩
      clear hlt
      gi_wp2
      go_end0
      obtain ⟨g, hg⟩ := HE.out
      exact ⟨⟨_, rfl⟩, _, g, rfl, hg⟩
set_option maxRecDepth 100000 in
set_option maxHeartbeats 4000000 in
theorem walk1_seqB (n : Nat) (Bs : Nat) (s : Sg) (w : World) (hB0 : w.heap[Bs]? = some s.cs) (hA : s.ln ≤ 64) (hB : 0 < s.ln) :
    SeqR Fence.wide n Try.prog 57 #[.pointer (some ⟨Bs, 0, none⟩)] (fun x : Int => #[.int .i64 x]) (fun xs => xs = walkL s) 64 (fun k => k = Bs) w := fun l g0 J W hg0 hW hJ hJc hY h0 => by
  have hBW := blk_below hB0 hW
  have HBlt := Aside0.mk (blk_lt hBW)
  have HY := Aside0.mk hY
  have HJ := Aside0.mk hJ
  have HJC := Aside0.mk hJc
  have hu23 := Try.underlying23
  have H0 := Aside0.mk h0
  have HG0 : Aside0 (g0 ≠ some Bs) := ⟨hg0 Bs rfl⟩
  have HBW := Aside0.mk hBW
  obtain ⟨c0, c1, c2, c3, c4, c5⟩ := sg_cells hBW
  have CQ : Aside0 (cnt s.ln = s.ln) := ⟨by unfold cnt mx mn; (repeat' split) <;> omega⟩
  have d1 := hA
  have d2 := hB
  clear hY hJ hJc h0 hW hB0 hBW hg0
  refine callsIn_of_wp Try.func57 rfl trivial ?_ rfl
  simp only [Try.ntmps57, List.size_toArray, List.length_cons, List.length_nil, Nat.reduceAdd, Nat.reduceSub, Array.replicate_succ, Array.replicate_zero, List.push_toArray, List.append_toArray, List.nil_append, List.cons_append]
  gi_wp2
  gi_loopw [3, 10] (fun v3 v10 wr => ∃ (k : Nat) (a : Int), v3 = .int .i64 a ∧ v10 = .int .i64 (k : Int) ∧ Aside0 ((k : Int) ≤ cnt s.ln) ∧ Aside0 (∃ g pre, J g pre wr ∧ g ≠ some Bs ∧ pre.length = k ∧ pre ++ goL s.big ((cnt s.ln).toNat - k) a = walkL s) ∧ Aside0 (wr.heap[Bs]? = some s.cs) ∧ Aside0 (W.heap.size ≤ wr.heap.size)) (fun _ i _ => 64 - (intOf i).toNat)
  case atStart => exact ⟨0, s.st, rfl, rfl, ⟨(cnt_range s.ln).1⟩, ⟨⟨g0, [], H0.out, HG0.out, rfl, rfl⟩⟩, HBW, ⟨Nat.le_refl _⟩⟩
  case round =>
    obtain ⟨k, a, rfl, rfl, HK, HG, HC, HS⟩ := hrel
    clear c0 c1 c2 c3 c4 c5
    obtain ⟨c0, c1, c2, c3, c4, c5⟩ := sg_cells HC.out
    by_cases hlt : (k : Int) < s.ln
    · have u1 : decide ((k : Int) < s.ln) = true := decide_eq_true hlt
      have HL : Aside0 ((k : Int) < cnt s.ln) := ⟨by rw [CQ.out]; exact hlt⟩
      clear hlt
      have hk1 : wrap64 ((k : Int) + 1) = ((k + 1 : Nat) : Int) := by rw [wr_small _ (by omega) (by have := HL.out; have := cnt_range s.ln; omega)]; rfl
      by_cases hr : 0 ≤ a ∧ a < 64
      · have u2 : decide (a < 0) = false := decide_eq_false (by omega)
        have u3 : decide (a ≥ 64) = false := decide_eq_false (by omega)
        have HR := Aside0.mk hr
        clear hr
        obtain ⟨g, pre, hg, hgne, hpl, hpe⟩ := HG.out
        obtain ⟨fn, tmps, assign, body, hy, hR⟩ := HY.out g pre a wr hg (by have := cnt_range s.ln; have := HL.out; omega)
        have GN := Aside0.mk (And.intro hgne (And.intro hpl hpe))
        clear hg hgne hpl hpe
        gi_wp2
        refine ⟨(fun h => by cases h), hR.mono ?_⟩
        rintro e W3 ⟨rfl, ⟨g', hJ3, hg'⟩, hk3⟩
        have HB5 : Bs < wr.heap.size := blk_lt HC.out
        have G3 : Aside0 (∃ g pre, J g pre W3 ∧ g ≠ some Bs ∧ pre.length = k + 1 ∧ pre ++ goL s.big ((cnt s.ln).toNat - (k + 1)) (nextAt s.big a) = walkL s) := ⟨⟨g', pre ++ [a], hJ3, by
          rcases hg' with rfl | ⟨r, rfl, hr⟩
          · exact GN.out.1
          · intro e; cases e; omega, by simp [GN.out.2.1], by
          rw [← GN.out.2.2, show (cnt s.ln).toNat - k = ((cnt s.ln).toNat - (k + 1)) + 1 by have := HL.out; omega]
          rw [List.append_assoc]
          congr 1
          show _ = (if 0 ≤ a ∧ a < 64 then _ else _)
          rw [if_pos HR.out]
          rfl⟩⟩
        have HC3 : Aside0 (W3.heap[Bs]? = some s.cs) := ⟨hk3.blk HC.out (fun q => by
          rcases q with ⟨_, q⟩ | q
          · exact q rfl
          · exact GN.out.1 q)⟩
        have HS3 : Aside0 (W.heap.size ≤ W3.heap.size) := ⟨Nat.le_trans HS.out hk3.size⟩
        clear hJ3 hg' hk3 HB5 hy hR c0 c1 c2 c3 c4 c5 HC HS HG
        obtain ⟨c0, c1, c2, c3, c4, c5⟩ := sg_cells HC3.out
        have w1 : wrap64 (a + 1) = a + 1 := wr_small _ (by have := HR.out; omega) (by have := HR.out; omega)
        have w2 : wrap64 (a + 15) = a + 15 := wr_small _ (by have := HR.out; omega) (by have := HR.out; omega)
        have w3 : wrap64 (a - 1) = a - 1 := wr_small _ (by have := HR.out; omega) (by have := HR.out; omega)
        by_cases hb : s.big = true
        · rw [hb] at c2
          by_cases hm : Int.tmod a 8 = 0
          · have u4 : (Int.tmod a 8 == 0) = true := by simpa using hm
            have EN : Aside0 (nextAt s.big a = a + 15) := ⟨by unfold nextAt; rw [if_pos hb, if_pos hm]⟩
            clear hb hm
            gi_wp2
            go_roundw
            case rel => exact ⟨k + 1, a + 15, by first | rfl | rw [w2], by first | rw [hk1] | simp, ⟨by have := HL.out; omega⟩, ⟨by rw [← EN.out]; exact G3.out⟩, HC3, HS3⟩
            case measure => exact meas_next hk1 (by have := HL.out; have := cnt_range s.ln; omega)
          · have u4 : (Int.tmod a 8 == 0) = false := by simpa using hm
            have EN : Aside0 (nextAt s.big a = a - 1) := ⟨by unfold nextAt; rw [if_pos hb, if_neg hm]⟩
            clear hb hm
            gi_wp2
            go_roundw
            case rel => exact ⟨k + 1, a - 1, by first | rfl | rw [w3], by first | rw [hk1] | simp, ⟨by have := HL.out; omega⟩, ⟨by rw [← EN.out]; exact G3.out⟩, HC3, HS3⟩
            case measure => exact meas_next hk1 (by have := HL.out; have := cnt_range s.ln; omega)
        · have hb2 : s.big = false := by simpa using hb
          rw [hb2] at c2
          have EN : Aside0 (nextAt s.big a = a + 1) := ⟨by unfold nextAt; rw [if_neg hb]⟩
          clear hb hb2
          gi_wp2
          go_roundw
          case rel => exact ⟨k + 1, a + 1, by first | rfl | rw [w1], by first | rw [hk1] | simp, ⟨by have := HL.out; omega⟩, ⟨by rw [← EN.out]; exact G3.out⟩, HC3, HS3⟩
          case measure => exact meas_next hk1 (by have := HL.out; have := cnt_range s.ln; omega)
      · have HE : Aside0 (∃ g, J g (walkL s) wr) := ⟨by
          obtain ⟨g, pre, hg, hgne, hpl, hpe⟩ := HG.out
          refine ⟨g, ?_⟩
          rw [← hpe, show (cnt s.ln).toNat - k = ((cnt s.ln).toNat - (k + 1)) + 1 by have := HL.out; omega]
          show J g (pre ++ (if 0 ≤ a ∧ a < 64 then _ else [])) wr
          rw [if_neg hr, List.append_nil]
          exact hg⟩
        by_cases ha : a < 0
        · have u2 : decide (a < 0) = true := decide_eq_true ha
          clear ha hr
          gi_wp2
          refine ⟨fun _ h => (by cases h), ?_⟩
          gi_wp2
          (try simp only [Exit.inBlock, Exit.then])
          refine bodyPost_ret (results_none rfl _ _ _) rfl ?_
          obtain ⟨g, hg⟩ := HE.out
          exact ⟨⟨_, rfl⟩, _, g, rfl, hg⟩
        · have u2 : decide (a < 0) = false := decide_eq_false ha
          have u3 : decide (a ≥ 64) = true := decide_eq_true (by omega)
          clear ha hr
          gi_wp2
          refine ⟨fun _ h => (by cases h), ?_⟩
          gi_wp2
          (try simp only [Exit.inBlock, Exit.then])
          refine bodyPost_ret (results_none rfl _ _ _) rfl ?_
          obtain ⟨g, hg⟩ := HE.out
          exact ⟨⟨_, rfl⟩, _, g, rfl, hg⟩
    · have u1 : decide ((k : Int) < s.ln) = false := decide_eq_false hlt
      have HE : Aside0 (∃ g, J g (walkL s) wr) := ⟨by
          obtain ⟨g, pre, hg, hgne, hpl, hpe⟩ := HG.out
          refine ⟨g, ?_⟩
          rw [← hpe, show (cnt s.ln).toNat - k = 0 by have := CQ.out; omega]
          show J g (pre ++ []) wr
          rw [List.append_nil]
          exact hg⟩
      clear hlt
      gi_wp2
      go_end0
      obtain ⟨g, hg⟩ := HE.out
      exact ⟨⟨_, rfl⟩, _, g, rfl, hg⟩
set_option maxRecDepth 100000 in
set_option maxHeartbeats 4000000 in
theorem walk1_seqC (n : Nat) (Bs : Nat) (s : Sg) (w : World) (hB0 : w.heap[Bs]? = some s.cs) (hA : s.ln ≤ 64) (hB : s.ln ≤ 0) :
    SeqR Fence.wide n Try.prog 57 #[.pointer (some ⟨Bs, 0, none⟩)] (fun x : Int => #[.int .i64 x]) (fun xs => xs = walkL s) 64 (fun k => k = Bs) w := fun l g0 J W hg0 hW hJ hJc hY h0 => by
  have hBW := blk_below hB0 hW
  have HBlt := Aside0.mk (blk_lt hBW)
  have HY := Aside0.mk hY
  have HJ := Aside0.mk hJ
  have HJC := Aside0.mk hJc
  have hu23 := Try.underlying23
  have H0 := Aside0.mk h0
  have HG0 : Aside0 (g0 ≠ some Bs) := ⟨hg0 Bs rfl⟩
  have HBW := Aside0.mk hBW
  obtain ⟨c0, c1, c2, c3, c4, c5⟩ := sg_cells hBW
  have CQ : Aside0 (cnt s.ln = 0) := ⟨by unfold cnt mx mn; (repeat' split) <;> omega⟩
  have d1 := hA
  have d2 : ¬ 0 < s.ln := by omega
  clear hY hJ hJc h0 hW hB0 hBW hg0
  refine callsIn_of_wp Try.func57 rfl trivial ?_ rfl
  simp only [Try.ntmps57, List.size_toArray, List.length_cons, List.length_nil, Nat.reduceAdd, Nat.reduceSub, Array.replicate_succ, Array.replicate_zero, List.push_toArray, List.append_toArray, List.nil_append, List.cons_append]
  gi_wp2
  gi_loopw [3, 10] (fun v3 v10 wr => ∃ (k : Nat) (a : Int), v3 = .int .i64 a ∧ v10 = .int .i64 (k : Int) ∧ Aside0 ((k : Int) ≤ cnt s.ln) ∧ Aside0 (∃ g pre, J g pre wr ∧ g ≠ some Bs ∧ pre.length = k ∧ pre ++ goL s.big ((cnt s.ln).toNat - k) a = walkL s) ∧ Aside0 (wr.heap[Bs]? = some s.cs) ∧ Aside0 (W.heap.size ≤ wr.heap.size)) (fun _ i _ => 64 - (intOf i).toNat)
  case atStart => exact ⟨0, s.st, rfl, rfl, ⟨(cnt_range s.ln).1⟩, ⟨⟨g0, [], H0.out, HG0.out, rfl, rfl⟩⟩, HBW, ⟨Nat.le_refl _⟩⟩
  case round =>
    obtain ⟨k, a, rfl, rfl, HK, HG, HC, HS⟩ := hrel
    clear c0 c1 c2 c3 c4 c5
    obtain ⟨c0, c1, c2, c3, c4, c5⟩ := sg_cells HC.out
    by_cases hlt : (k : Int) < 0
    · exfalso
      omega
    · have u1 : decide ((k : Int) < 0) = false := decide_eq_false hlt
      have HE : Aside0 (∃ g, J g (walkL s) wr) := ⟨by
          obtain ⟨g, pre, hg, hgne, hpl, hpe⟩ := HG.out
          refine ⟨g, ?_⟩
          rw [← hpe, show (cnt s.ln).toNat - k = 0 by have := CQ.out; omega]
          show J g (pre ++ []) wr
          rw [List.append_nil]
          exact hg⟩
      clear hlt
      gi_wp2
      go_end0
      obtain ⟨g, hg⟩ := HE.out
      exact ⟨⟨_, rfl⟩, _, g, rfl, hg⟩
theorem walk1_seq (n : Nat) (Bs : Nat) (s : Sg) (w : World) (hB0 : w.heap[Bs]? = some s.cs) :
    SeqR Fence.wide n Try.prog 57 #[.pointer (some ⟨Bs, 0, none⟩)] (fun x : Int => #[.int .i64 x]) (fun xs => xs = walkL s) 64 (fun k => k = Bs) w := by
  by_cases hA : s.ln ≤ 64
  · by_cases hB : 0 < s.ln
    · exact walk1_seqB n Bs s w hB0 hA hB
    · exact walk1_seqC n Bs s w hB0 hA (by omega)
  · exact walk1_seqA n Bs s w hB0 (by omega)
end Go.Proofs.Ytepeihlhokpjjaa.P
