/- The clock's functions and the reference's, walked by hand: what a line has at a count, and how a clock goes on. Conditions: each lemma names them. -/
import Derived.Test.YtgnkmpgnlpjglaaPx
namespace Go.Proofs.Ytgnkmpgnlpjglaa.P
open Go.RowKit Go.Proofs.YtgnkmpgnlpjglaaW.PrintWords Go.Proofs.YtgnkmpgnlpjglaaW.PrintLast Go.Proofs.YtgnkmpgnlpjglaaW.PrintMore
set_option linter.unusedVariables false
set_option linter.unusedSimpArgs false
theorem cells1k {w : World} {g : Nat} {a : Value} {t : TypeId} (h : w.heap[g]? = some (.cells #[a] t (0, 0))) : w.cell? ⟨g, 0, none⟩ = some a ∧ w.frozen? ⟨g, 0, none⟩ = false :=
  ⟨(blk_cell h 0).trans rfl, blk_frozen h 0⟩
theorem cells3k {w : World} {g : Nat} {a b c : Value} {t : TypeId} (h : w.heap[g]? = some (.cells #[a, b, c] t (0, 0))) :
    w.cell? ⟨g, 0, none⟩ = some a ∧ w.cell? ⟨g, 1, none⟩ = some b ∧ w.cell? ⟨g, 2, none⟩ = some c :=
  ⟨(blk_cell h 0).trans rfl, (blk_cell h 1).trans rfl, (blk_cell h 2).trans rfl⟩
theorem cells4k {w : World} {g : Nat} {a b c d : Value} {t : TypeId} (h : w.heap[g]? = some (.cells #[a, b, c, d] t (0, 0))) :
    w.cell? ⟨g, 0, none⟩ = some a ∧ w.cell? ⟨g, 1, none⟩ = some b ∧ w.cell? ⟨g, 2, none⟩ = some c ∧ w.cell? ⟨g, 3, none⟩ = some d ∧
    w.frozen? ⟨g, 0, none⟩ = false ∧ w.frozen? ⟨g, 1, none⟩ = false ∧ w.frozen? ⟨g, 2, none⟩ = false ∧ w.frozen? ⟨g, 3, none⟩ = false :=
  ⟨(blk_cell h 0).trans rfl, (blk_cell h 1).trans rfl, (blk_cell h 2).trans rfl, (blk_cell h 3).trans rfl, blk_frozen h 0, blk_frozen h 1, blk_frozen h 2, blk_frozen h 3⟩
def wi (t : Int) : Bool := decide (-1152921504606846976 ≤ t ∧ t ≤ 1152921504606846976)
def stepV (t : Int) (f : Bool) (n : Int) (ok : Bool) : Int := if (f && ok) = true then n else t
set_option maxHeartbeats 1000000 in
set_option maxRecDepth 100000 in
theorem step_calls (n tv : Int) (ok fv : Bool) (bf bt : Nat) (w : World) (hne : bf ≠ bt) (hf : w.heap[bf]? = some (.cells #[.bool fv] 4 (0, 0))) (ht : w.heap[bt]? = some (.cells #[.int .i64 tv] 2 (0, 0))) :
    Calls Try.prog 89 #[.int .i64 n, .bool ok, .pointer (some ⟨bf, 0, none⟩), .pointer (some ⟨bt, 0, none⟩)] w fun e w' => e = .returned (.tuple #[]) ∧ w' = if (fv && ok) = true then (w.setCell ⟨bf, 0, none⟩ (.bool true)).setCell ⟨bt, 0, none⟩ (.int .i64 n) else w.setCell ⟨bf, 0, none⟩ (.bool false) := by
  obtain ⟨c0, f0⟩ := cells1k hf
  obtain ⟨c1, f1⟩ := cells1k ht
  have hne2 := Ne.symm hne
  clear hf ht
  cases fv <;> cases ok
  all_goals
    go_enter Try.func89, Try.ntmps89
    go_wp2
    go_end0
    exact ⟨rfl, rfl⟩
/-- What the three variables of a line's walk hold. -/
structure LS (w W : World) (h : Nat) (r b k tv : Int) (fv : Bool) : Prop where
  l : W.heap[h]? = some (.cells #[.int .i64 r, .int .i64 b, .int .i64 k] 96 (0, 0))
  t : W.heap[h + 1]? = some (.cells #[.int .i64 tv] 2 (0, 0))
  f : W.heap[h + 2]? = some (.cells #[.bool fv] 4 (0, 0))
  B : Below w.heap.size w W
theorem LS.below {w W W' : World} {h : Nat} {r b k tv : Int} {fv : Bool} (p : LS w W h r b k tv fv) (hb : Below W.heap.size W W') : LS w W' h r b k tv fv := ⟨blk_below p.l hb, blk_below p.t hb, blk_below p.f hb, below_step p.B hb⟩
theorem LS.drewN {w W : World} {h : Nat} {r b k tv : Int} {fv : Bool} (p : LS w W h r b k tv fv) (m : Nat) : LS w (W.drewN m) h r b k tv fv := ⟨blk_drewN p.l m, blk_drewN p.t m, blk_drewN p.f m, pw_below_drewN p.B m⟩
theorem LS.step {w W W' : World} {h : Nat} {r b k tv n : Int} {fv ok : Bool} (p : LS w W h r b k tv fv) (hh : w.heap.size ≤ h)
    (e : W' = if (fv && ok) = true then (W.setCell ⟨h + 2, 0, none⟩ (.bool true)).setCell ⟨h + 1, 0, none⟩ (.int .i64 n) else W.setCell ⟨h + 2, 0, none⟩ (.bool false)) : LS w W' h r b k (stepV tv fv n ok) (fv && ok) := by
  subst e
  unfold stepV
  cases fv <;> cases ok
  all_goals simp only [Bool.and_true, Bool.and_false, Bool.false_eq_true, if_false, if_true, Bool.true_and, Bool.false_and]
  all_goals first
    | exact ⟨blk_far p.l (show h ≠ h + 2 by omega) _, blk_far p.t (show h + 1 ≠ h + 2 by omega) _, blk_put p.f 0 _ rfl, below_set p.B (by omega)⟩
    | exact ⟨blk_far (blk_far p.l (show h ≠ h + 2 by omega) _) (show h ≠ h + 1 by omega) _, blk_put (blk_far p.t (show h + 1 ≠ h + 2 by omega) _) 0 _ rfl, blk_far (blk_put p.f 0 _ rfl) (show h + 2 ≠ h + 1 by omega) _, below_set (below_set p.B (by omega)) (by omega)⟩
theorem within_eq (t : Int) : clock_within.f t = some (wi t) := by
  unfold clock_within.f exact_Clamp.f wi mn
  by_cases h1 : t < -1152921504606846976
  · rw [if_pos h1]
    simp only [Option.bind_some]
    congr 1
    rw [Bool.eq_iff_iff, beq_iff_eq, decide_eq_true_eq]
    omega
  · rw [if_neg h1]
    simp only [Option.bind_some]
    congr 1
    rw [Bool.eq_iff_iff, beq_iff_eq, decide_eq_true_eq]
    split <;> omega
set_option maxHeartbeats 4000000 in
set_option maxRecDepth 100000 in
theorem at_core (r b k c n1 n2 n3 t1 t2 r1 : Int) (o1 o2 o3 v f1 f2 f3 : Bool) (w : World) (h1 : exact_Sub.f c r = some (n1, o1)) (e1 : stepV c true n1 o1 = t1) (g1 : (true && o1) = f1) (h2 : exact_Scale.f t1 k 1048576 = some (n2, o2)) (e2 : stepV t1 f1 n2 o2 = t2) (g2 : (f1 && o2) = f2)
    (h3 : exact_Add.f t2 b = some (n3, o3)) (e3 : stepV t2 f2 n3 o3 = r1) (g3 : (f2 && o3) = f3) (hv : clock_within.f r1 = some v) :
    Calls Try.prog 77 #[.agg #[.int .i64 r, .int .i64 b, .int .i64 k], .int .i64 c] w fun e w' => e = .returned (.tuple #[.int .i64 (if (f3 && v) = true then r1 else 0), .bool (f3 && v)]) ∧ Below w.heap.size w w' := by
  have H1 := Aside0.mk h1
  have H2 := Aside0.mk h2
  have H3 := Aside0.mk h3
  have E1 := Aside0.mk (And.intro e1 g1)
  have E2 := Aside0.mk (And.intro e2 g2)
  have E3 := Aside0.mk (And.intro e3 g3)
  have HV := Aside0.mk hv
  clear h1 h2 h3 e1 g1 e2 g2 e3 g3 hv
  have hmf : ∀ (fn : Fn) (first cap : Array Value) (w : World), (Instr.makeFunc fn first cap).run Try.prog w = .ok (.func fn first cap) w := fun _ _ _ _ => rfl
  have hu42 := Try.underlying96
  have K0 : Aside0 (LS w (((w.alloc (.cells #[.int .i64 r, .int .i64 b, .int .i64 k] 96)).alloc (.cells #[.int .i64 c] 2)).alloc (.cells #[.bool true] 4)) w.heap.size r b k c true) :=
    ⟨⟨blk_alloc (blk_alloc (blk_new _ _) _) _, blk_alloc (by simpa using blk_new (w.alloc (.cells #[.int .i64 r, .int .i64 b, .int .i64 k] 96)) (.cells #[.int .i64 c] 2)) _, by simpa using blk_new ((w.alloc (.cells #[.int .i64 r, .int .i64 b, .int .i64 k] 96)).alloc (.cells #[.int .i64 c] 2)) (.cells #[.bool true] 4), below_alloc (below_alloc (below_alloc (Below.refl _ _) _) _) _⟩⟩
  go_enter Try.func77, Try.ntmps77
  go_wp2_with fail
  (with_reducible refine (exact_Sub.calls c r n1 o1 _ H1.out).mono ?_); rintro e w1 ⟨rfl, ⟨m1, rfl⟩⟩
  have K1 := Aside0.mk (K0.out.drewN m1); clear K0
  go_wp2_with fail
  (with_reducible refine (step_calls n1 c o1 true (w.heap.size + 2) (w.heap.size + 1) _ (by omega) K1.out.f K1.out.t).mono ?_); rintro e w2 ⟨rfl, he⟩
  have K2 := K1.out.step (Nat.le_refl _) he; clear he K1
  rw [E1.out.1, E1.out.2] at K2
  have K2 := Aside0.mk K2
  obtain ⟨c0, c1, c2⟩ := cells3k K2.out.l
  obtain ⟨d0, e0⟩ := cells1k K2.out.t
  go_wp2_with fail
  (with_reducible refine (exact_Scale.calls _ k 1048576 n2 o2 _ H2.out).mono ?_); rintro e w3 ⟨rfl, hb⟩
  have K3 := Aside0.mk (K2.out.below hb); clear hb K2 c0 c1 c2 d0 e0
  go_wp2_with fail
  (with_reducible refine (step_calls n2 _ o2 _ (w.heap.size + 2) (w.heap.size + 1) _ (by omega) K3.out.f K3.out.t).mono ?_); rintro e w4 ⟨rfl, he⟩
  have K4 := K3.out.step (Nat.le_refl _) he; clear he K3
  rw [E2.out.1, E2.out.2] at K4
  have K4 := Aside0.mk K4
  obtain ⟨c0, c1, c2⟩ := cells3k K4.out.l
  obtain ⟨d0, e0⟩ := cells1k K4.out.t
  go_wp2_with fail
  (with_reducible refine (exact_Add.calls _ b n3 o3 _ H3.out).mono ?_); rintro e w5 ⟨rfl, ⟨m5, rfl⟩⟩
  have K5 := Aside0.mk (K4.out.drewN m5); clear K4 c0 c1 c2 d0 e0
  go_wp2_with fail
  (with_reducible refine (step_calls n3 _ o3 _ (w.heap.size + 2) (w.heap.size + 1) _ (by omega) K5.out.f K5.out.t).mono ?_); rintro e w6 ⟨rfl, he⟩
  have K6 := K5.out.step (Nat.le_refl _) he; clear he K5
  rw [E3.out.1, E3.out.2] at K6
  have K6 := Aside0.mk K6
  obtain ⟨d0, e0⟩ := cells1k K6.out.t
  obtain ⟨d1, e1⟩ := cells1k K6.out.f
  clear H1 H2 H3 E1 E2 E3
  cases f3 with
  | false =>
    go_wp2_with fail
    go_ret2
    exact ⟨rfl, K6.out.B⟩
  | true =>
    go_wp2_with fail
    (with_reducible refine (clock_within.calls r1 v _ HV.out).mono ?_); rintro e w7 ⟨rfl, hb⟩
    have K7 := Aside0.mk (K6.out.below hb); clear hb K6 d0 e0 d1 e1
    obtain ⟨d0, e0⟩ := cells1k K7.out.t
    cases v
    all_goals
      go_wp2_with fail
      go_ret2
      exact ⟨rfl, K7.out.B⟩
end Go.Proofs.Ytgnkmpgnlpjglaa.P
