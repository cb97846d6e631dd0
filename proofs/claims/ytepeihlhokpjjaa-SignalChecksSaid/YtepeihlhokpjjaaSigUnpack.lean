/- What several signals are unpacked to. Conditions: those that each lemma names. -/
import Derived.Test.YtepeihlhokpjjaaSigPack
namespace Go.Proofs.Ytepeihlhokpjjaa.P
open Go.RowKit Go.Proofs.YtepeihlhokpjjaaW.PrintWords Go.Proofs.YtepeihlhokpjjaaW.PrintLast Go.Proofs.YtepeihlhokpjjaaW.PrintMore
set_option linter.unusedVariables false
set_option linter.unusedSimpArgs false
theorem sinfo2 : (Try.prog.info? 2).map (fun i => (i.zero, i.size, i.bytes)) = some (some (.int .i64 0), 1, 8) := by kernel_rfl
theorem or_64 (x y : Int) : In64 (Go.bits .or .i64 x y) := by
  have e : Go.bits .or .i64 x y = (BitVec.ofInt 64 x ||| BitVec.ofInt 64 y).toInt := toInt_of _
  rw [e]
  have h1 := BitVec.le_toInt (BitVec.ofInt 64 x ||| BitVec.ofInt 64 y)
  have h2 := BitVec.toInt_lt (x := BitVec.ofInt 64 x ||| BitVec.ofInt 64 y)
  constructor
  · simpa using h1
  · have : (BitVec.ofInt 64 x ||| BitVec.ofInt 64 y).toInt < 9223372036854775808 := by simpa using h2
    omega
theorem getL_64 (d : List Int) : ∀ (l : List Int) (i : Nat) (n : Int), In64 n → In64 (getL d l i n)
  | [], _, n, h => h
  | a :: r, i, n, h => getL_64 d r (i + 1) _ (or_64 _ _)
theorem div_64 {x p : Int} (h : In64 x) (hp : 0 < p) : In64 (x / p) := by
  have h1 := h.def
  constructor
  · by_cases hx : 0 ≤ x
    · have := Int.ediv_nonneg hx (by omega : 0 ≤ p)
      omega
    · have h2 : x ≤ x / p := by
        refine Int.le_ediv_of_mul_le hp ?_
        have := Int.mul_nonneg (by omega : 0 ≤ -x) (by omega : 0 ≤ p - 1)
        rw [Int.neg_mul, Int.mul_sub, Int.mul_one] at this
        omega
      omega
  · by_cases hx : 0 ≤ x
    · have := Int.ediv_le_self p hx
      omega
    · have := Int.ediv_neg_of_neg_of_pos (by omega : x < 0) hp
      omega
theorem getV_64 (d : List Int) (s : Sg) : In64 (getV d s) := by
  have h0 : In64 (getN d (placesV s)) := getL_64 d _ 0 0 (by decide)
  unfold getV
  dsimp only
  split
  · exact div_64 (wrap64_range _) (Int.pow_pos (by omega))
  · exact h0
def unpackL (data : List Int) : List S23 → Nat → List Int → List Int × Int × Int
  | [], i, o => (o, (i : Int), 0)
  | s :: r, i, o => if (worthV (Sg.of s) (getV data (Sg.of s))).2 = true then unpackL data r (i + 1) (o ++ [(worthV (Sg.of s) (getV data (Sg.of s))).1]) else ([], (i : Int), 9)
def unpackV (l : List S23) (data : List Int) : List Int × Int × Int :=
  if (checkV l 8).2 = 0 then unpackL data l 0 [] else ([], (checkV l 8).1, (checkV l 8).2)
structure Uk (d : List Int) (b3 : Nat) (w W : World) : Prop where
  kd : W.heap[b3]? = some (.cells (bytesA d) 24 (0, 0))
  B : Below w.heap.size w W
theorem Uk.below {d : List Int} {b3 : Nat} {w W W' : World} (h : Uk d b3 w W) (hb : Below W.heap.size W W') : Uk d b3 w W' := ⟨blk_below h.kd hb, below_step h.B hb⟩
set_option maxHeartbeats 8000000 in
set_option maxRecDepth 100000 in
theorem Unpack_walk8 (l : List S23) (A : Option Addr) (cp : Nat) (q0 q1 q2 q3 q4 q5 q6 q7 : Int) (w : World) (hC : Kd.C k23 w A l.length l) (hS : ∀ x ∈ l, In64 x.f4 ∧ In64 x.f5) :
    Calls Try.prog 28 #[.slice A l.length cp, .agg (oct q0 q1 q2 q3 q4 q5 q6 q7)] w fun e w' => ∃ v, e = .returned (.tuple #[v, .int .i64 (unpackV l [q0, q1, q2, q3, q4, q5, q6, q7]).2.1, .int .i64 (unpackV l [q0, q1, q2, q3, q4, q5, q6, q7]).2.2]) ∧ Kd.R (Kd.int .i64) 2 w' w.heap.size (fun _ => True) v (unpackV l [q0, q1, q2, q3, q4, q5, q6, q7]).1 ∧ Below w.heap.size w w' := by
  have hu23 := Try.underlying23
  have hu24 := Try.underlying24
  have hu39 := Try.underlying39
  have hu40 := Try.underlying40
  have HC := Aside0.mk hC
  have HS := Aside0.mk hS
  clear hC hS
  have PV : Aside0 (unpackV l [q0, q1, q2, q3, q4, q5, q6, q7] = if (checkV l 8).2 = 0 then unpackL [q0, q1, q2, q3, q4, q5, q6, q7] l 0 [] else ([], (checkV l 8).1, (checkV l 8).2)) := ⟨rfl⟩
  generalize unpackV l [q0, q1, q2, q3, q4, q5, q6, q7] = pv at PV ⊢
  have CC := Aside0.mk (fun w' h => Check_walk l A cp 8 w' h)
  have L64 : Aside0 ((checkV l 8).2 = 0 → l.length ≤ 64) := ⟨fun h => by
    unfold checkV at h
    split at h
    · cases h
    · omega⟩
  generalize checkV l 8 = cv at CC PV L64
  obtain ⟨c1, c2⟩ := cv
  dsimp only at CC PV L64
  have K0 : Aside0 (Uk [q0, q1, q2, q3, q4, q5, q6, q7] w.heap.size w (w.alloc (.cells (oct q0 q1 q2 q3 q4 q5 q6 q7) 24))) := ⟨⟨blk_new _ _, below_alloc (Below.refl _ _) _⟩⟩
  go_enter Try.func28, Try.ntmps28
  go_wp2_with fail
  (with_reducible refine (CC.out _ (Kd.C_below HC.out K0.out.B)).mono ?_)
  rintro e W ⟨rfl, hb⟩
  have K1 := Aside0.mk (K0.out.below hb)
  clear hb K0
  by_cases hc : c2 = 0
  · have u1 : (c2 != 0) = false := by simpa using hc
    have EC := PV.out.trans (if_pos hc)
    have L6 := Aside0.mk (L64.out hc)
    clear PV hc L64
    have HE : Aside0 (unpackL [q0, q1, q2, q3, q4, q5, q6, q7] (l.drop 0) 0 [] = pv) := ⟨EC.symm⟩
    clear EC
    go_wp2
    go_loopg [9, 25] (l.length + 1) (fun kq v9 v25 w' => ∃ (k : Nat) (u : Value) (xs : List Int), v9 = u ∧ v25 = .int .i64 (k : Int) ∧ Aside0 (k ≤ l.length ∧ l.length < k + kq ∧ xs.length ≤ k) ∧ Aside0 (unpackL [q0, q1, q2, q3, q4, q5, q6, q7] (l.drop k) k xs = pv) ∧ Aside0 (Uk [q0, q1, q2, q3, q4, q5, q6, q7] w.heap.size w w') ∧ Aside0 (Kd.R (Kd.int .i64) 2 w' w.heap.size (fun _ => True) u xs))
    case atStart => exact ⟨0, _, [], rfl, rfl, ⟨⟨by omega, by omega, Nat.le_refl _⟩⟩, HE, K1, ⟨Kd.R_nil _ _ _ _ _⟩⟩
    case round =>
      clear HE K1
      obtain ⟨k, u, xs, rfl, rfl, HK, HL, Z, HR⟩ := hrel
      cases gk with
      | zero => exact absurd HK.out (by omega)
      | succ k1 =>
        by_cases hlt : k < l.length
        · have u4 : decide ((k : Int) < (l.length : Int)) = true := decide_eq_true (by omega)
          have u4b : decide (k < l.length) = true := decide_eq_true hlt
          have p1 : (0 ≤ (k : Int)) = True := eq_true (by omega)
          have q1' : ((k : Int) < (l.length : Int)) = True := eq_true (by omega)
          obtain ⟨ad, ea, x0, x1, x2, x3, x4, x5⟩ := at_T23 (Kd.C_below HC.out Z.out.B) (k : Int) (by omega) (by omega)
          cases ea
          have k1' : wrap64 ((k : Int) + 1) = ((k + 1 : Nat) : Int) := by rw [wr_small _ (by omega) (by have := L6.out; omega)]; rfl
          have HD : Aside0 (unpackL [q0, q1, q2, q3, q4, q5, q6, q7] (rd_T23 l (k : Int) :: l.drop (k + 1)) k xs = pv) := ⟨by rw [← drop_T23 hlt]; exact HL.out⟩
          have KL := Aside0.mk hlt
          have hsx := HS.out (rd_T23 l (k : Int)) (by
            have : rd_T23 l (k : Int) = l[k] := by simp [rd_T23, hlt]
            rw [this]
            exact List.getElem_mem hlt)
          clear hlt HL
          generalize rd_T23 l (k : Int) = x at x0 x1 x2 x3 x4 x5 HD hsx
          obtain ⟨g0, g1, g2, g3, g4, g5⟩ := x
          dsimp only at x0 x1 x2 x3 x4 x5 hsx
          simp only [Int.toNat_natCast] at x0 x1 x2 x3 x4 x5
          have GC : Aside0 (∀ w, Calls Try.prog 22 #[.agg (oct q0 q1 q2 q3 q4 q5 q6 q7), .agg #[.int .i64 g0, .int .i64 g1, .bool g2, .bool g3, .int .i64 g4, .int .i64 g5]] w fun e w' => e = .returned (.int .i64 (getV [q0, q1, q2, q3, q4, q5, q6, q7] ⟨g0, g1, g2, g3, g4, g5⟩)) ∧ Below w.heap.size w w') := ⟨fun w => Get_walk [q0, q1, q2, q3, q4, q5, q6, q7] rfl ⟨g0, g1, g2, g3, g4, g5⟩ w⟩
          have G64 := getV_64 [q0, q1, q2, q3, q4, q5, q6, q7] ⟨g0, g1, g2, g3, g4, g5⟩
          have HD2 : Aside0 ((if (worthV ⟨g0, g1, g2, g3, g4, g5⟩ (getV [q0, q1, q2, q3, q4, q5, q6, q7] ⟨g0, g1, g2, g3, g4, g5⟩)).2 = true then unpackL [q0, q1, q2, q3, q4, q5, q6, q7] (l.drop (k + 1)) (k + 1) (xs ++ [(worthV ⟨g0, g1, g2, g3, g4, g5⟩ (getV [q0, q1, q2, q3, q4, q5, q6, q7] ⟨g0, g1, g2, g3, g4, g5⟩)).1]) else ([], (k : Int), 9)) = pv) := ⟨HD.out⟩
          clear HD
          generalize getV [q0, q1, q2, q3, q4, q5, q6, q7] ⟨g0, g1, g2, g3, g4, g5⟩ = gv at GC G64 HD2
          have WC := Aside0.mk (fun w => Worth_walk ⟨g0, g1, g2, g3, g4, g5⟩ G64 hsx.1 hsx.2 w)
          clear hsx G64
          generalize worthV ⟨g0, g1, g2, g3, g4, g5⟩ gv = wv at WC HD2
          obtain ⟨x, ok⟩ := wv
          dsimp only at WC HD2
          have XB := Aside0.mk (blk_new wr (.cells #[.int .i64 g0, .int .i64 g1, .bool g2, .bool g3, .int .i64 g4, .int .i64 g5] 23))
          have Z1 := Aside0.mk (Z.out.below (below_alloc (Below.refl _ _) (.cells #[.int .i64 g0, .int .i64 g1, .bool g2, .bool g3, .int .i64 g4, .int .i64 g5] 23)))
          have R1 := Aside0.mk (Kd.R_below HR.out (below_alloc (Below.refl _ _) (.cells #[.int .i64 g0, .int .i64 g1, .bool g2, .bool g3, .int .i64 g4, .int .i64 g5] 23)))
          clear Z HR
          go_wp2_with fail
          generalize wr.alloc (.cells #[.int .i64 g0, .int .i64 g1, .bool g2, .bool g3, .int .i64 g4, .int .i64 g5] 23) = W1 at XB Z1 R1 ⊢
          generalize wr.heap.size = b11 at XB ⊢
          have X := XB
          have Z := Z1
          have HR := R1
          clear XB Z1 R1 x0 x1 x2 x3 x4 x5
          obtain ⟨x0, x1, x2, x3, x4, x5⟩ := sg_cells (s := ⟨g0, g1, g2, g3, g4, g5⟩) X.out
          dsimp only at x0 x1 x2 x3 x4 x5
          obtain ⟨d0, d1, d2, d3, d4, d5, d6, d7⟩ := oct_cells (show W1.heap[w.heap.size]? = some (.cells (oct q0 q1 q2 q3 q4 q5 q6 q7) 24 (0, 0)) from Z.out.kd)
          go_region_held3 (fun w' => w'.cell? ⟨b11, 0, none⟩ = some (.int .i64 g0) ∧ w'.cell? ⟨b11, 1, none⟩ = some (.int .i64 g1) ∧ w'.cell? ⟨b11, 2, none⟩ = some (.bool g2) ∧ w'.cell? ⟨b11, 3, none⟩ = some (.bool g3) ∧ w'.cell? ⟨b11, 4, none⟩ = some (.int .i64 g4) ∧ w'.cell? ⟨b11, 5, none⟩ = some (.int .i64 g5) ∧ w'.cell? ⟨w.heap.size, 0, none⟩ = some (.int .u8 q0) ∧ w'.cell? ⟨w.heap.size, 1, none⟩ = some (.int .u8 q1) ∧ w'.cell? ⟨w.heap.size, 2, none⟩ = some (.int .u8 q2) ∧ w'.cell? ⟨w.heap.size, 3, none⟩ = some (.int .u8 q3) ∧ w'.cell? ⟨w.heap.size, 4, none⟩ = some (.int .u8 q4) ∧ w'.cell? ⟨w.heap.size, 5, none⟩ = some (.int .u8 q5) ∧ w'.cell? ⟨w.heap.size, 6, none⟩ = some (.int .u8 q6) ∧ w'.cell? ⟨w.heap.size, 7, none⟩ = some (.int .u8 q7)) (go_keep)
            (first
              | (go_at_call 22; (with_reducible refine (GC.out _).mono ?_); rintro e w5 ⟨rfl, hb⟩; have n0 := Aside0.mk (show Uk [q0, q1, q2, q3, q4, q5, q6, q7] w.heap.size w w5 by first | exact Z.out.below hb | exact (Z.out.below (below_drew1 (Below.refl _ _))).below hb); have n1 := Aside0.mk (show w5.heap[b11]? = some (.cells #[.int .i64 g0, .int .i64 g1, .bool g2, .bool g3, .int .i64 g4, .int .i64 g5] 23 (0, 0)) by first | exact blk_below X.out hb | exact blk_below (blk_below X.out (below_drew1 (Below.refl _ _))) hb); have n2 := Aside0.mk (show Kd.R (Kd.int .i64) 2 w5 w.heap.size (fun _ => True) u9 xs by first | exact Kd.R_below HR.out hb | exact Kd.R_below (Kd.R_drew HR.out) hb); clear hb Z X HR x0 x1 x2 x3 x4 x5 d0 d1 d2 d3 d4 d5 d6 d7; have Z := n0; have X := n1; have HR := n2; clear n0 n1 n2; obtain ⟨x0, x1, x2, x3, x4, x5⟩ := sg_cells (s := ⟨g0, g1, g2, g3, g4, g5⟩) X.out; dsimp only at x0 x1 x2 x3 x4 x5; obtain ⟨d0, d1, d2, d3, d4, d5, d6, d7⟩ := oct_cells (show w5.heap[w.heap.size]? = some (.cells (oct q0 q1 q2 q3 q4 q5 q6 q7) 24 (0, 0)) from Z.out.kd))
              | (go_at_call 12; (with_reducible refine (WC.out _).mono ?_); rintro e w5 ⟨rfl, hb⟩; have n0 := Aside0.mk (show Uk [q0, q1, q2, q3, q4, q5, q6, q7] w.heap.size w w5 by first | exact Z.out.below hb | exact (Z.out.below (below_drew1 (Below.refl _ _))).below hb); have n1 := Aside0.mk (show w5.heap[b11]? = some (.cells #[.int .i64 g0, .int .i64 g1, .bool g2, .bool g3, .int .i64 g4, .int .i64 g5] 23 (0, 0)) by first | exact blk_below X.out hb | exact blk_below (blk_below X.out (below_drew1 (Below.refl _ _))) hb); have n2 := Aside0.mk (show Kd.R (Kd.int .i64) 2 w5 w.heap.size (fun _ => True) u9 xs by first | exact Kd.R_below HR.out hb | exact Kd.R_below (Kd.R_drew HR.out) hb); clear hb Z X HR x0 x1 x2 x3 x4 x5 d0 d1 d2 d3 d4 d5 d6 d7; have Z := n0; have X := n1; have HR := n2; clear n0 n1 n2; obtain ⟨x0, x1, x2, x3, x4, x5⟩ := sg_cells (s := ⟨g0, g1, g2, g3, g4, g5⟩) X.out; dsimp only at x0 x1 x2 x3 x4 x5; obtain ⟨d0, d1, d2, d3, d4, d5, d6, d7⟩ := oct_cells (show w5.heap[w.heap.size]? = some (.cells (oct q0 q1 q2 q3 q4 q5 q6 q7) 24 (0, 0)) from Z.out.kd)))
          clear x0 x1 x2 x3 x4 x5 d0 d1 d2 d3 d4 d5 d6 d7
          cases ok
          · go_wp2
            (try simp only [Exit.inBlock, Exit.then])
            refine bodyPost_ret (results_tmp3 rfl _ _ _) rfl ?_
            exact ⟨_, by rw [← HD2.out]; rfl, by rw [← HD2.out]; exact Kd.R_nil _ _ _ _ _, Z.out.B⟩
          · go_wp2_with (first | ((with_reducible refine gate_builtin (b := .append) (xs := #[.tmp 41, .tmp 43]) rfl ?_); at_builtin; refine Kd.R_append (Kd.int .i64) (w0 := w) w.heap.size rfl (.tmp 41) (.tmp 43) 40 2 (.int .i64 0) 8 rfl Try.underlying40 sinfo2 rfl (by decide) (by omega) u9 xs x [.int .i64 x] (fun _ => True) (fun _ => False) rfl rfl ?aP (fun _ hk => hk.elim) ?aF ?aO ?aB ?aS ?aL ?_; (case aP => exact rfl); (case aF => exact (fun _ _ => trivial)); (case aO => exact HR.out); (case aB => exact Z.out.B); (case aS => exact Z.out.B.size); (case aL => have := HK.out; have := KL.out; have := L6.out; omega); intro v2 w6 ho hb hg hat; have n0 := Aside0.mk (show Uk _ w.heap.size w w6 from ⟨blk_grown Z.out.kd hg (Kd.R_ne HR.out Z.out.kd (by decide)), hb⟩); have n1 := Aside0.mk ho; clear Z HR X ho hb hg hat; have Z := n0; have HR := n1; clear n0 n1))
            go_roundg k1
            case rel => exact ⟨k + 1, _, xs ++ [x], rfl, by first | rfl | rw [k1'], ⟨⟨by have := KL.out; omega, by have := HK.out; omega, by rw [List.length_append]; have := HK.out; simp; omega⟩⟩, ⟨HD2.out⟩, Z, HR⟩
            case measure => omega
        · have u4 : decide ((k : Int) < (l.length : Int)) = false := decide_eq_false (by omega)
          have u4b : decide (k < l.length) = false := decide_eq_false hlt
          have EN : Aside0 (pv = (xs, ((l.length : Int)), 0)) := ⟨by
            have := HL.out
            rw [show k = l.length by have := HK.out; omega, List.drop_length] at this
            exact this.symm⟩
          clear hlt HL
          go_wp2
          (try simp only [Exit.inBlock, Exit.then])
          refine bodyPost_ret (results_tmp3 rfl _ _ _) rfl ?_
          exact ⟨_, by rw [EN.out]; rfl, by rw [EN.out]; exact HR.out, Z.out.B⟩
  · have u1 : (c2 != 0) = true := by simpa using hc
    have EC := Aside0.mk (PV.out.trans (if_neg hc))
    clear PV hc L64
    go_wp2
    (try simp only [Exit.inBlock, Exit.then])
    refine bodyPost_ret (results_tmp3 rfl _ _ _) rfl ?_
    exact ⟨_, by rw [EC.out]; rfl, by rw [EC.out]; exact Kd.R_nil _ _ _ _ _, K1.out.B⟩
theorem Unpack_walk (l : List S23) (A : Option Addr) (cp : Nat) (d : List Int) (hd : d.length = 8) (w : World) (hC : Kd.C k23 w A l.length l) (hS : ∀ x ∈ l, In64 x.f4 ∧ In64 x.f5) :
    Calls Try.prog 28 #[.slice A l.length cp, .agg (bytesA d)] w fun e w' => ∃ v, e = .returned (.tuple #[v, .int .i64 (unpackV l d).2.1, .int .i64 (unpackV l d).2.2]) ∧ Kd.R (Kd.int .i64) 2 w' w.heap.size (fun _ => True) v (unpackV l d).1 ∧ Below w.heap.size w w' := by
  obtain ⟨q0, q1, q2, q3, q4, q5, q6, q7, rfl⟩ := eight hd
  exact Unpack_walk8 l A cp q0 q1 q2 q3 q4 q5 q6 q7 w hC hS
end Go.Proofs.Ytepeihlhokpjjaa.P
