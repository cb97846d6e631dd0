/- A number's bits, in two halves, add up to the number: the walk and the plain law. Condition: the number is of its kind. -/
import Derived.Test.YtgnkmpgnlpjglaaBitsPlain
import Derived.Test.YtgnkmpgnlpjglaaClockLib2
namespace Go.Proofs.Ytgnkmpgnlpjglaa.P
open Go.RowKit Go.Proofs.YtgnkmpgnlpjglaaW.PrintWords Go.Proofs.YtgnkmpgnlpjglaaW.PrintLast Go.Proofs.YtgnkmpgnlpjglaaW.PrintMore
set_option linter.unusedVariables false
set_option linter.unusedSimpArgs false
theorem Number_calls (a : Option Addr) (len cap : Nat) (zs : List Int) (hreach : zs.length * 8 ≤ 140737488351232) (w : World) (hI : Bytes w.heap.size w (.slice a len cap) zs) :
    Calls Try.prog 13 #[.slice a len cap] w fun e W' => e = .returned (.int .u64 (numV zs)) ∧ Below w.heap.size w W' :=
  callsIn_wide.1 (Number_in Fence.wide 3 trivial trivial trivial trivial rfl (Nat.le_refl _) a len cap zs hreach w hI)
theorem R_bytes {w : World} {base : Nat} {ok : Nat → Prop} {v : Value} {xs : List Int} (h : Kd.R (Kd.int .u8) 5 w base ok v xs) (hx : xs ≠ []) :
    ∃ g off cap, v = .slice (some ⟨g, off, none⟩) xs.length cap ∧ xs.length ≤ cap ∧ g < w.heap.size ∧ ∀ j, j < xs.length → w.cell? ⟨g, off + j, none⟩ = some (.int .u8 (xs[j]?.getD 0)) := by
  obtain ⟨A, c, e, hl, hC⟩ := Kd.R_reads h
  obtain ⟨inner, ho⟩ := Kd.R_own h
  have hlt := own_lt ho
  have hp : 0 < xs.length := List.length_pos_iff.2 hx
  rcases ho.2 with ⟨rfl, h0⟩ | ⟨g, cap, cur, rfl, hg, hh, r⟩
  · exfalso
    injection e with _ e _
    omega
  · injection e with e1 e2 e3
    subst e1; subst e3
    obtain ⟨ad, e4, hc⟩ := hC.2.2 hp
    injection e4 with e4
    subst e4
    refine ⟨g, 0, cap, rfl, hl, hlt g rfl, fun j hj => ?_⟩
    obtain ⟨c, hs, hr, hcell⟩ := hc j _ (List.getElem?_eq_getElem hj)
    have hr' : c = [.int .u8 xs[j]] := hr
    subst hr'
    have := hcell 0 _ rfl
    simp only [Kd.int, Kd.scalar, Nat.mul_one, Nat.add_zero, Addr.add, Nat.zero_add] at this ⊢
    have e0 : (if j = 0 then (⟨g, 0, none⟩ : Addr) else ⟨g, j, none⟩) = ⟨g, j, none⟩ := by split <;> simp_all
    rw [e0] at this
    rw [this, List.getElem?_eq_getElem hj]
    rfl
theorem Bytes.up {n m : Nat} {W : World} {sv : Value} {zs : List Int} (H : Bytes n W sv zs) (h : n ≤ m) : Bytes m W sv zs := match H with
  | .inl e => .inl e
  | .inr ⟨b, off, cap, e, hb, hc⟩ => .inr ⟨b, off, cap, e, Nat.lt_of_lt_of_le hb h, hc⟩
theorem bytes_cut {W : World} {g off : Nat} {xs : List Int} (hg : g < W.heap.size) (hc : ∀ j, j < xs.length → W.cell? ⟨g, off + j, none⟩ = some (.int .u8 (xs[j]?.getD 0))) (a m : Nat) (hm : a + m ≤ xs.length) (cap' : Nat) :
    Bytes W.heap.size W (.slice (some ⟨g, off + a, none⟩) m cap') ((xs.drop a).take m) := by
  have hl : ((xs.drop a).take m).length = m := by simp; omega
  refine .inr ⟨g, off + a, cap', by rw [hl], hg, fun j hj => ?_⟩
  rw [hl] at hj
  rw [Nat.add_assoc, hc (a + j) (by omega), List.getElem?_take, if_pos hj, List.getElem?_drop]
set_option maxHeartbeats 4000000 in
set_option maxRecDepth 100000 in
theorem Numbers_core (a0 n h1 h2 hi s : Int) (xs : List Int) (k : Nat) (w : World) (en : Go.bits .and .u64 a0 4611686018427387903 = n) (ho : strand_Of.f k n 64 = some xs) (hl : xs.length = 64) (e1 : numV (xs.take 32) = h1) (e2 : numV (xs.drop 32) = h2)
    (w1 : IntKind.i64.wrap h1 = h1) (w2 : IntKind.i64.wrap h2 = h2) (w3 : IntKind.i64.wrap n = n) (hm : exact_Mul.f h1 4294967296 = some (hi, true)) (hs : exact_Add.f hi h2 = some (n, true)) :
    Calls Try.prog 4 #[.int .u64 a0] w fun e w' => e = .returned (.bool true) ∧ Below w.heap.size w w' := by
  have HO := Aside0.mk ho
  have HM := Aside0.mk hm
  have HS := Aside0.mk hs
  have E := Aside0.mk (And.intro e1 e2)
  have q1 : (n == n) = true := by simp
  clear ho hm hs e1 e2
  go_enter Try.func4, Try.ntmps4
  go_wp2_with fail
  (with_reducible refine (strand_Of.calls k n 64 xs _ HO.out).mono ?_); rintro e w1 ⟨v0, rfl, hR, hb1⟩
  obtain ⟨g, off, cap, rfl, hcap, hg, hc⟩ := R_bytes hR (by intro h; rw [h] at hl; cases hl)
  rw [hl] at hcap ⊢
  have hA := bytes_cut hg hc 0 32 (by omega) cap
  have hlA : ((xs.drop 0).take 32).length = 32 := by simp; omega
  rw [Nat.add_zero, List.drop_zero] at hA
  go_wp2_with fail
  (with_reducible refine (Number_calls _ _ _ _ (by rw [List.length_take]; omega) _ hA).mono ?_); rintro e w2 ⟨rfl, hb2⟩
  rw [E.out.1]
  go_wp2_with fail
  (with_reducible refine (exact_Mul.calls h1 4294967296 hi true _ HM.out).mono ?_); rintro e w3 ⟨rfl, hb3⟩
  have hB := bytes_cut hg hc 32 32 (by omega) (cap - 32)
  have hb23 := hb2.trans (hb3.mono hb2.size)
  have hB3 := hB.below hb23
  go_wp2_with fail
  (with_reducible refine (Number_calls _ _ _ _ (by rw [List.length_take]; omega) _ (hB3.up (n := w1.heap.size) hb23.size)).mono ?_); rintro e w4 ⟨rfl, hb4⟩
  rw [List.take_of_length_le (by rw [List.length_drop]; omega), E.out.2]
  go_wp2_with fail
  (with_reducible refine (exact_Add.calls hi h2 n true _ HS.out).mono ?_); rintro e w5 ⟨rfl, hb5⟩
  go_wp2_with fail
  go_ret
  exact ⟨rfl, hb1.trans ((hb23.mono hb1.size).trans (((hb4.trans (hb5.below.mono hb4.size)).mono hb23.size).mono hb1.size))⟩
theorem TopNumbers_walk (a0 : Int) (w : World) (w0 : (Lit.int .u64 a0).wf = true) :
    Calls Try.prog 4 #[.int .u64 a0] w fun e w' => e = .returned (.bool true) ∧ Below w.heap.size w w' := by
  have b0 : 0 ≤ a0 ∧ a0 ≤ 18446744073709551615 := by
    simp only [Lit.wf, Bool.and_eq_true, decide_eq_true_eq] at w0
    exact w0
  have h0 : 0 ≤ a0 := b0.1
  have h1 : a0 < 18446744073709551616 := by omega
  obtain ⟨n, hn⟩ : ∃ n, a0 % 4611686018427387904 = n := ⟨_, rfl⟩
  have e0 : bits .and .u64 a0 4611686018427387903 = n := by rw [and_62 a0 h0 h1, hn]
  have n0 : 0 ≤ n ∧ n < 4611686018427387904 := by omega
  have ho := Of_eq 64 (by decide) (by decide) n n0.1 (by omega) 70 (by decide)
  have ha := bitL_app n 32 32
  have p32 : (2 : Int) ^ 32 = 4294967296 := rfl
  have e1 : numV ((bitL n 64).take 32) = n / 4294967296 := by
    rw [show (64 : Nat) = 32 + 32 from rfl, ha, List.take_left' (bitL_len _ _), numV_bits _ _ (by decide), p32]
    omega
  have e2 : numV ((bitL n 64).drop 32) = n % 4294967296 := by
    rw [show (64 : Nat) = 32 + 32 from rfl, ha, List.drop_left' (bitL_len _ _), numV_bits _ _ (by decide), p32]
  have hm : exact_Mul.f (n / 4294967296) 4294967296 = some (n / 4294967296 * 4294967296, true) := by
    unfold exact_Mul.f fits In64
    rw [if_pos (by omega), if_pos (by omega)]
  have hs : exact_Add.f (n / 4294967296 * 4294967296) (n % 4294967296) = some (n, true) := by
    rw [Add_eq _ _ (by omega) (by omega) (by omega) (by omega), fit64_in (by omega) (by omega)]
    congr 2
    omega
  exact Numbers_core a0 n _ _ _ 0 _ 70 w e0 ho (bitL_len _ _) e1 e2 (by rw [IntKind.wrap_i64]; omega) (by rw [IntKind.wrap_i64]; omega) (by rw [IntKind.wrap_i64]; omega) hm hs
end Go.Proofs.Ytgnkmpgnlpjglaa.P
